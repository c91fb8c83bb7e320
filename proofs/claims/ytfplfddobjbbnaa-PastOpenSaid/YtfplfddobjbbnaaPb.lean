/- Layer 14, the program's functions that write: what each call does to a past. -/
import Derived.Test.YtfplfddobjbbnaaPa
namespace Go.Proofs.Ytfplfddobjbbnaa
set_option linter.unusedSectionVars false
set_option linter.unusedSimpArgs false
set_option linter.unusedVariables false
open Go
section
variable (f : Frag) (F : List HP) (b : Nat) (s : PM)

theorem Fn.slc_len {P : Program} {fid : FuncId} {args : List Value} {f : Frag} {A A' : List HP} {R : Value → Frag → List HP → Prop} {p : Option Addr} {n0 c sz : Nat} {T : TypeId} {xs : List Value} (h : At A (slc p n0 c T sz xs) A' (slc p n0 c T sz xs))
    (k : xs.length = n0 * sz → Fn P fid args f A R) : Fn P fid args f A R := fun base w s => k (s.slc_at h).1 base w s

theorem one_views (l : List (Int × Int)) : ∀ v ∈ viewsV l, one v = true := by
  intro v hv
  obtain ⟨p, _, rfl⟩ := List.mem_map.1 hv
  rfl

/-- slices.Clone of a slice that the caller owns. -/
theorem clone_fn (p : Option Addr) (n c : Nat) (xs : List Value) (h1 : ∀ v ∈ xs, one v = true) (hn : n ≤ 1000000) (A : List HP) (hp : p.isNone = false) (hA : At A (slc p n c 23 1 xs) A (slc p n c 23 1 xs)) :
    Fn Try.prog 24 [.slice p n c] f A (fun v f' A' => ∃ p' c', v = .slice p' n c' ∧ f' = f ∧ A' = slc p' n c' 23 1 xs :: A) := by
  refine Fn.slc_len hA fun hl => ?_
  cases p with
  | none => cases hp
  | some a =>
  refine Fn.enter Try.func24 rfl Try.ntmps24 rfl (L := [(0, _)]) ⟨rfl, trivial⟩ fun base => ?_
  repeat (
    first
    | ((first | apply H.move | apply H.assign | apply H.nilCheck | apply H.len_slice); (iterate 3 exact rfl))
    | (apply H.fieldAddr; (iterate 3 exact rfl); exact inferInstance; exact rfl)
    | (apply H.load1; (iterate 3 exact rfl); apply Rd1.ofRow; (repeat (first | exact .here _ _ _ | apply At.there)); (iterate 2 exact rfl))
    | (first | apply H.seq | apply H.region | apply H.nil | apply H.then_normal)
    | ((first | apply H.cmp | apply H.build); (iterate 5 exact rfl))
    | ((first | (apply H.ar; (iterate 4 exact rfl)) | (apply H.conv_int; (iterate 2 exact rfl))); (first | (apply wr_i64_s1; omega) | (apply wr_i64_n1; omega) | (apply wr_i64_nn; omega) | (apply wr_i64; omega) | (apply wr_u64; omega) | (apply wr_u8; omega) | (apply wr_u16; omega) | rfl); exact rfl)
    | (apply H.pass; (iterate 2 exact rfl))
    | (apply H.pass0; exact rfl)
    | (apply H.pickT; (iterate 4 exact rfl))
    | ((first | apply H.pickF | apply H.extract | apply H.not); (iterate 4 exact rfl))
    | ((first | apply H.ptrNil | apply H.sliceNil); (iterate 5 exact rfl))
    | (apply H.store1; (iterate 4 exact rfl); (repeat (first | exact .here _ _ _ | apply At.there)); (repeat (first | exact .here _ _ _ | apply SetV.there)))
    | (apply H.cond_true; exact rfl)
    | (apply H.cond_false; exact rfl)
    | (first | apply H.skip | apply H.ret | apply H.then_ret | apply H.then_exit | apply H.exit | apply H.block | apply H.in_normal | apply H.in_ret | apply H.in_hit | apply H.loop_ret | apply H.loop_exit)
    | (apply H.in_miss; exact rfl)
    | (apply H.gyes; (iterate 3 exact rfl); (first | assumption | omega))
    | (apply H.gno; (iterate 3 exact rfl); (first | assumption | omega))
    | (apply H.cond_yes; exact rfl; (first | assumption | omega))
    | (apply H.cond_no; exact rfl; (first | assumption | omega))
    | ((first | apply H.gtrue); (iterate 3 exact rfl); assumption)
    | (apply H.gfalse; (iterate 3 exact rfl); assumption)
    | (apply H.cond_t; exact rfl; assumption)
    | (apply H.cond_f; exact rfl; assumption))
  refine H.buildSlice rfl rfl rfl rfl (by decide) (by decide) rfl rfl fun eb => ?_
  repeat (
    first
    | ((first | apply H.move | apply H.assign | apply H.nilCheck | apply H.len_slice); (iterate 3 exact rfl))
    | (apply H.fieldAddr; (iterate 3 exact rfl); exact inferInstance; exact rfl)
    | (apply H.load1; (iterate 3 exact rfl); apply Rd1.ofRow; (repeat (first | exact .here _ _ _ | apply At.there)); (iterate 2 exact rfl))
    | (first | apply H.seq | apply H.region | apply H.nil | apply H.then_normal)
    | ((first | apply H.cmp | apply H.build); (iterate 5 exact rfl))
    | ((first | (apply H.ar; (iterate 4 exact rfl)) | (apply H.conv_int; (iterate 2 exact rfl))); (first | (apply wr_i64_s1; omega) | (apply wr_i64_n1; omega) | (apply wr_i64_nn; omega) | (apply wr_i64; omega) | (apply wr_u64; omega) | (apply wr_u8; omega) | (apply wr_u16; omega) | rfl); exact rfl)
    | (apply H.pass; (iterate 2 exact rfl))
    | (apply H.pass0; exact rfl)
    | (apply H.pickT; (iterate 4 exact rfl))
    | ((first | apply H.pickF | apply H.extract | apply H.not); (iterate 4 exact rfl))
    | ((first | apply H.ptrNil | apply H.sliceNil); (iterate 5 exact rfl))
    | (apply H.store1; (iterate 4 exact rfl); (repeat (first | exact .here _ _ _ | apply At.there)); (repeat (first | exact .here _ _ _ | apply SetV.there)))
    | (apply H.cond_true; exact rfl)
    | (apply H.cond_false; exact rfl)
    | (first | apply H.skip | apply H.ret | apply H.then_ret | apply H.then_exit | apply H.exit | apply H.block | apply H.in_normal | apply H.in_ret | apply H.in_hit | apply H.loop_ret | apply H.loop_exit)
    | (apply H.in_miss; exact rfl)
    | (apply H.gyes; (iterate 3 exact rfl); (first | assumption | omega))
    | (apply H.gno; (iterate 3 exact rfl); (first | assumption | omega))
    | (apply H.cond_yes; exact rfl; (first | assumption | omega))
    | (apply H.cond_no; exact rfl; (first | assumption | omega))
    | ((first | apply H.gtrue); (iterate 3 exact rfl); assumption)
    | (apply H.gfalse; (iterate 3 exact rfl); assumption)
    | (apply H.cond_t; exact rfl; assumption)
    | (apply H.cond_f; exact rfl; assumption))
  refine H.imp (A' := slc (some ⟨eb, 0, none⟩) 0 0 23 1 [] :: A) ?_ ?_
  · rintro x ⟨m1, m2, d, e, a, r⟩
    exact ⟨m1, m2, d, e, row_slc (by rfl) (by decide) a, r⟩
  refine H.append rfl rfl rfl rfl rfl (fun p' c' => .here _ _ _) (Src.slcS (.there _ hA) hl) h1 rfl (by omega) (by omega) fun p' c' => ?_
  repeat (
    first
    | ((first | apply H.move | apply H.assign | apply H.nilCheck | apply H.len_slice); (iterate 3 exact rfl))
    | (apply H.fieldAddr; (iterate 3 exact rfl); exact inferInstance; exact rfl)
    | (apply H.load1; (iterate 3 exact rfl); apply Rd1.ofRow; (repeat (first | exact .here _ _ _ | apply At.there)); (iterate 2 exact rfl))
    | (first | apply H.seq | apply H.region | apply H.nil | apply H.then_normal)
    | ((first | apply H.cmp | apply H.build); (iterate 5 exact rfl))
    | ((first | (apply H.ar; (iterate 4 exact rfl)) | (apply H.conv_int; (iterate 2 exact rfl))); (first | (apply wr_i64_s1; omega) | (apply wr_i64_n1; omega) | (apply wr_i64_nn; omega) | (apply wr_i64; omega) | (apply wr_u64; omega) | (apply wr_u8; omega) | (apply wr_u16; omega) | rfl); exact rfl)
    | (apply H.pass; (iterate 2 exact rfl))
    | (apply H.pass0; exact rfl)
    | (apply H.pickT; (iterate 4 exact rfl))
    | ((first | apply H.pickF | apply H.extract | apply H.not); (iterate 4 exact rfl))
    | ((first | apply H.ptrNil | apply H.sliceNil); (iterate 5 exact rfl))
    | (apply H.store1; (iterate 4 exact rfl); (repeat (first | exact .here _ _ _ | apply At.there)); (repeat (first | exact .here _ _ _ | apply SetV.there)))
    | (apply H.cond_true; exact rfl)
    | (apply H.cond_false; exact rfl)
    | (first | apply H.skip | apply H.ret | apply H.then_ret | apply H.then_exit | apply H.exit | apply H.block | apply H.in_normal | apply H.in_ret | apply H.in_hit | apply H.loop_ret | apply H.loop_exit)
    | (apply H.in_miss; exact rfl)
    | (apply H.gyes; (iterate 3 exact rfl); (first | assumption | omega))
    | (apply H.gno; (iterate 3 exact rfl); (first | assumption | omega))
    | (apply H.cond_yes; exact rfl; (first | assumption | omega))
    | (apply H.cond_no; exact rfl; (first | assumption | omega))
    | ((first | apply H.gtrue); (iterate 3 exact rfl); assumption)
    | (apply H.gfalse; (iterate 3 exact rfl); assumption)
    | (apply H.cond_t; exact rfl; assumption)
    | (apply H.cond_f; exact rfl; assumption))
  refine H.ret1 rfl rfl (A' := slc p' n c' 23 1 xs :: A) ?_ ⟨p', c', by rw [Nat.zero_add], rfl, rfl⟩
  simp only [List.nil_append, Nat.zero_add]
  exact fun _ h => h

theorem entered_nil : Fn Try.prog 15 [.pointer none] f F (Ret (.slice none 0 0) f F) := by
  refine Fn.enter Try.func15 rfl Try.ntmps15 rfl (L := [(0, _)]) ⟨rfl, trivial⟩ fun base => ?_
  repeat (
    first
    | ((first | apply H.move | apply H.assign | apply H.nilCheck | apply H.len_slice); (iterate 3 exact rfl))
    | (apply H.fieldAddr; (iterate 3 exact rfl); exact inferInstance; exact rfl)
    | (apply H.load1; (iterate 3 exact rfl); apply Rd1.ofRow; (repeat (first | exact .here _ _ _ | apply At.there)); (iterate 2 exact rfl))
    | (first | apply H.seq | apply H.region | apply H.nil | apply H.then_normal)
    | ((first | apply H.cmp | apply H.build); (iterate 5 exact rfl))
    | ((first | (apply H.ar; (iterate 4 exact rfl)) | (apply H.conv_int; (iterate 2 exact rfl))); (first | (apply wr_i64_s1; omega) | (apply wr_i64_n1; omega) | (apply wr_i64_nn; omega) | (apply wr_i64; omega) | (apply wr_u64; omega) | (apply wr_u8; omega) | (apply wr_u16; omega) | rfl); exact rfl)
    | (apply H.pass; (iterate 2 exact rfl))
    | (apply H.pass0; exact rfl)
    | (apply H.pickT; (iterate 4 exact rfl))
    | ((first | apply H.pickF | apply H.extract | apply H.not); (iterate 4 exact rfl))
    | ((first | apply H.ptrNil | apply H.sliceNil); (iterate 5 exact rfl))
    | (apply H.store1; (iterate 4 exact rfl); (repeat (first | exact .here _ _ _ | apply At.there)); (repeat (first | exact .here _ _ _ | apply SetV.there)))
    | (apply H.cond_true; exact rfl)
    | (apply H.cond_false; exact rfl)
    | (first | apply H.skip | apply H.ret | apply H.then_ret | apply H.then_exit | apply H.exit | apply H.block | apply H.in_normal | apply H.in_ret | apply H.in_hit | apply H.loop_ret | apply H.loop_exit)
    | (apply H.in_miss; exact rfl)
    | (apply H.gyes; (iterate 3 exact rfl); (first | assumption | omega))
    | (apply H.gno; (iterate 3 exact rfl); (first | assumption | omega))
    | (apply H.cond_yes; exact rfl; (first | assumption | omega))
    | (apply H.cond_no; exact rfl; (first | assumption | omega))
    | ((first | apply H.gtrue); (iterate 3 exact rfl); assumption)
    | (apply H.gfalse; (iterate 3 exact rfl); assumption)
    | (apply H.cond_t; exact rfl; assumption)
    | (apply H.cond_f; exact rfl; assumption))
  exact H.ret1 rfl rfl (fun _ h => h) ⟨rfl, rfl, rfl⟩
theorem entered_fn (hn : s.init.length ≤ 100000) : Fn Try.prog 15 [.pointer (some ⟨b, 0, none⟩)] f (pastH b s :: F)
    (fun v f' A' => ∃ p' c', v = .slice p' (s.init.length + 1) c' ∧ f' = f ∧ A' = slc p' (s.init.length + 1) c' 23 1 (viewsV s.all) :: pastH b s :: F) := by
  refine pastH_open fun eb ec mb => ?_
  refine Fn.enter Try.func15 rfl Try.ntmps15 rfl (L := [(0, _)]) ⟨rfl, trivial⟩ fun base => ?_
  repeat (
    first
    | ((first | apply H.move | apply H.assign | apply H.nilCheck | apply H.len_slice); (iterate 3 exact rfl))
    | (apply H.fieldAddr; (iterate 3 exact rfl); exact inferInstance; exact rfl)
    | (apply H.load1; (iterate 3 exact rfl); apply Rd1.ofRow; (repeat (first | exact .here _ _ _ | apply At.there)); (iterate 2 exact rfl))
    | (first | apply H.seq | apply H.region | apply H.nil | apply H.then_normal)
    | ((first | apply H.cmp | apply H.build); (iterate 5 exact rfl))
    | ((first | (apply H.ar; (iterate 4 exact rfl)) | (apply H.conv_int; (iterate 2 exact rfl))); (first | (apply wr_i64_s1; omega) | (apply wr_i64_n1; omega) | (apply wr_i64_nn; omega) | (apply wr_i64; omega) | (apply wr_u64; omega) | (apply wr_u8; omega) | (apply wr_u16; omega) | rfl); exact rfl)
    | (apply H.pass; (iterate 2 exact rfl))
    | (apply H.pass0; exact rfl)
    | (apply H.pickT; (iterate 4 exact rfl))
    | ((first | apply H.pickF | apply H.extract | apply H.not); (iterate 4 exact rfl))
    | ((first | apply H.ptrNil | apply H.sliceNil); (iterate 5 exact rfl))
    | (apply H.store1; (iterate 4 exact rfl); (repeat (first | exact .here _ _ _ | apply At.there)); (repeat (first | exact .here _ _ _ | apply SetV.there)))
    | (apply H.cond_true; exact rfl)
    | (apply H.cond_false; exact rfl)
    | (first | apply H.skip | apply H.ret | apply H.then_ret | apply H.then_exit | apply H.exit | apply H.block | apply H.in_normal | apply H.in_ret | apply H.in_hit | apply H.loop_ret | apply H.loop_exit)
    | (apply H.in_miss; exact rfl)
    | (apply H.gyes; (iterate 3 exact rfl); (first | assumption | omega))
    | (apply H.gno; (iterate 3 exact rfl); (first | assumption | omega))
    | (apply H.cond_yes; exact rfl; (first | assumption | omega))
    | (apply H.cond_no; exact rfl; (first | assumption | omega))
    | ((first | apply H.gtrue); (iterate 3 exact rfl); assumption)
    | (apply H.gfalse; (iterate 3 exact rfl); assumption)
    | (apply H.cond_t; exact rfl; assumption)
    | (apply H.cond_f; exact rfl; assumption))
  refine H.call rfl rfl rfl (clone_fn f _ _ _ _ (one_views s.all) (by omega) _ rfl (by repeat (first | exact .here _ _ _ | apply At.there))) fun v f' A' hR => ?_
  obtain ⟨p', c', rfl, rfl, rfl⟩ := hR
  repeat (
    first
    | ((first | apply H.move | apply H.assign | apply H.nilCheck | apply H.len_slice); (iterate 3 exact rfl))
    | (apply H.fieldAddr; (iterate 3 exact rfl); exact inferInstance; exact rfl)
    | (apply H.load1; (iterate 3 exact rfl); apply Rd1.ofRow; (repeat (first | exact .here _ _ _ | apply At.there)); (iterate 2 exact rfl))
    | (first | apply H.seq | apply H.region | apply H.nil | apply H.then_normal)
    | ((first | apply H.cmp | apply H.build); (iterate 5 exact rfl))
    | ((first | (apply H.ar; (iterate 4 exact rfl)) | (apply H.conv_int; (iterate 2 exact rfl))); (first | (apply wr_i64_s1; omega) | (apply wr_i64_n1; omega) | (apply wr_i64_nn; omega) | (apply wr_i64; omega) | (apply wr_u64; omega) | (apply wr_u8; omega) | (apply wr_u16; omega) | rfl); exact rfl)
    | (apply H.pass; (iterate 2 exact rfl))
    | (apply H.pass0; exact rfl)
    | (apply H.pickT; (iterate 4 exact rfl))
    | ((first | apply H.pickF | apply H.extract | apply H.not); (iterate 4 exact rfl))
    | ((first | apply H.ptrNil | apply H.sliceNil); (iterate 5 exact rfl))
    | (apply H.store1; (iterate 4 exact rfl); (repeat (first | exact .here _ _ _ | apply At.there)); (repeat (first | exact .here _ _ _ | apply SetV.there)))
    | (apply H.cond_true; exact rfl)
    | (apply H.cond_false; exact rfl)
    | (first | apply H.skip | apply H.ret | apply H.then_ret | apply H.then_exit | apply H.exit | apply H.block | apply H.in_normal | apply H.in_ret | apply H.in_hit | apply H.loop_ret | apply H.loop_exit)
    | (apply H.in_miss; exact rfl)
    | (apply H.gyes; (iterate 3 exact rfl); (first | assumption | omega))
    | (apply H.gno; (iterate 3 exact rfl); (first | assumption | omega))
    | (apply H.cond_yes; exact rfl; (first | assumption | omega))
    | (apply H.cond_no; exact rfl; (first | assumption | omega))
    | ((first | apply H.gtrue); (iterate 3 exact rfl); assumption)
    | (apply H.gfalse; (iterate 3 exact rfl); assumption)
    | (apply H.cond_t; exact rfl; assumption)
    | (apply H.cond_f; exact rfl; assumption))
  exact H.ret1 rfl rfl (keep_stars pastH_fold) ⟨p', c', rfl, rfl, rfl⟩

theorem prepare_fn {B : Int} (hw : PM.WF s B) (hB : B ≤ 9000000000000000000) (hn : s.init.length ≤ 1000000) (v : Int) : Fn Try.prog 19 [.pointer (some ⟨b, 0, none⟩), .int .u64 v] f (pastH b s :: F) (Ret (.bool (s.isOpen v)) f (pastH b (s.prepare v) :: F)) := by
  cases ho : s.isOpen v with
  | false =>
    refine Fn.enter Try.func19 rfl Try.ntmps19 rfl (L := [(0, _), (1, _)]) ⟨rfl, rfl, trivial⟩ fun base => ?_
    repeat (
      first
      | ((first | apply H.move | apply H.assign | apply H.nilCheck | apply H.len_slice); (iterate 3 exact rfl))
      | (apply H.fieldAddr; (iterate 3 exact rfl); exact inferInstance; exact rfl)
      | (apply H.load1; (iterate 3 exact rfl); apply Rd1.ofRow; (repeat (first | exact .here _ _ _ | apply At.there)); (iterate 2 exact rfl))
      | (first | apply H.seq | apply H.region | apply H.nil | apply H.then_normal)
      | ((first | apply H.cmp | apply H.build); (iterate 5 exact rfl))
      | ((first | (apply H.ar; (iterate 4 exact rfl)) | (apply H.conv_int; (iterate 2 exact rfl))); (first | (apply wr_i64_s1; omega) | (apply wr_i64_n1; omega) | (apply wr_i64_nn; omega) | (apply wr_i64; omega) | (apply wr_u64; omega) | (apply wr_u8; omega) | (apply wr_u16; omega) | rfl); exact rfl)
      | (apply H.pass; (iterate 2 exact rfl))
      | (apply H.pass0; exact rfl)
      | (apply H.pickT; (iterate 4 exact rfl))
      | ((first | apply H.pickF | apply H.extract | apply H.not); (iterate 4 exact rfl))
      | ((first | apply H.ptrNil | apply H.sliceNil); (iterate 5 exact rfl))
      | (apply H.store1; (iterate 4 exact rfl); (repeat (first | exact .here _ _ _ | apply At.there)); (repeat (first | exact .here _ _ _ | apply SetV.there)))
      | (apply H.cond_true; exact rfl)
      | (apply H.cond_false; exact rfl)
      | (first | apply H.skip | apply H.ret | apply H.then_ret | apply H.then_exit | apply H.exit | apply H.block | apply H.in_normal | apply H.in_ret | apply H.in_hit | apply H.loop_ret | apply H.loop_exit)
      | (apply H.in_miss; exact rfl)
      | (apply H.gyes; (iterate 3 exact rfl); (first | assumption | omega))
      | (apply H.gno; (iterate 3 exact rfl); (first | assumption | omega))
      | (apply H.cond_yes; exact rfl; (first | assumption | omega))
      | (apply H.cond_no; exact rfl; (first | assumption | omega))
      | ((first | apply H.gtrue); (iterate 3 exact rfl); assumption)
      | (apply H.gfalse; (iterate 3 exact rfl); assumption)
      | (apply H.cond_t; exact rfl; assumption)
      | (apply H.cond_f; exact rfl; assumption))
    refine H.call rfl rfl rfl (open_fn f F b s hn v) fun _ _ _ hR => ?_
    obtain ⟨rfl, rfl, rfl⟩ := hR
    rw [ho]
    repeat (
      first
      | ((first | apply H.move | apply H.assign | apply H.nilCheck | apply H.len_slice); (iterate 3 exact rfl))
      | (apply H.fieldAddr; (iterate 3 exact rfl); exact inferInstance; exact rfl)
      | (apply H.load1; (iterate 3 exact rfl); apply Rd1.ofRow; (repeat (first | exact .here _ _ _ | apply At.there)); (iterate 2 exact rfl))
      | (first | apply H.seq | apply H.region | apply H.nil | apply H.then_normal)
      | ((first | apply H.cmp | apply H.build); (iterate 5 exact rfl))
      | ((first | (apply H.ar; (iterate 4 exact rfl)) | (apply H.conv_int; (iterate 2 exact rfl))); (first | (apply wr_i64_s1; omega) | (apply wr_i64_n1; omega) | (apply wr_i64_nn; omega) | (apply wr_i64; omega) | (apply wr_u64; omega) | (apply wr_u8; omega) | (apply wr_u16; omega) | rfl); exact rfl)
      | (apply H.pass; (iterate 2 exact rfl))
      | (apply H.pass0; exact rfl)
      | (apply H.pickT; (iterate 4 exact rfl))
      | ((first | apply H.pickF | apply H.extract | apply H.not); (iterate 4 exact rfl))
      | ((first | apply H.ptrNil | apply H.sliceNil); (iterate 5 exact rfl))
      | (apply H.store1; (iterate 4 exact rfl); (repeat (first | exact .here _ _ _ | apply At.there)); (repeat (first | exact .here _ _ _ | apply SetV.there)))
      | (apply H.cond_true; exact rfl)
      | (apply H.cond_false; exact rfl)
      | (first | apply H.skip | apply H.ret | apply H.then_ret | apply H.then_exit | apply H.exit | apply H.block | apply H.in_normal | apply H.in_ret | apply H.in_hit | apply H.loop_ret | apply H.loop_exit)
      | (apply H.in_miss; exact rfl)
      | (apply H.gyes; (iterate 3 exact rfl); (first | assumption | omega))
      | (apply H.gno; (iterate 3 exact rfl); (first | assumption | omega))
      | (apply H.cond_yes; exact rfl; (first | assumption | omega))
      | (apply H.cond_no; exact rfl; (first | assumption | omega))
      | ((first | apply H.gtrue); (iterate 3 exact rfl); assumption)
      | (apply H.gfalse; (iterate 3 exact rfl); assumption)
      | (apply H.cond_t; exact rfl; assumption)
      | (apply H.cond_f; exact rfl; assumption))
    exact H.ret1 rfl rfl (fun _ h => h) ⟨rfl, rfl, by simp [PM.prepare, ho]⟩
  | true =>
    have hv : v = s.lv := by simp [PM.isOpen] at ho; exact ho.2
    have hl := hw.last
    have hgk : (getKV (PM.kv s.all) v).getD (.int .i64 0) = .int .i64 s.ln := by rw [PM.getKV_kv, hv, PM.voted_last hw]; rfl
    have hput : putKV (PM.kv s.all) v (.int .i64 (s.ln + 1)) = PM.kv ({ s with ln := s.ln + 1 } : PM).all := by rw [hv]; exact hw.kv_bump
    refine Fn.enter Try.func19 rfl Try.ntmps19 rfl (L := [(0, _), (1, _)]) ⟨rfl, rfl, trivial⟩ fun base => ?_
    repeat (
      first
      | ((first | apply H.move | apply H.assign | apply H.nilCheck | apply H.len_slice); (iterate 3 exact rfl))
      | (apply H.fieldAddr; (iterate 3 exact rfl); exact inferInstance; exact rfl)
      | (apply H.load1; (iterate 3 exact rfl); apply Rd1.ofRow; (repeat (first | exact .here _ _ _ | apply At.there)); (iterate 2 exact rfl))
      | (first | apply H.seq | apply H.region | apply H.nil | apply H.then_normal)
      | ((first | apply H.cmp | apply H.build); (iterate 5 exact rfl))
      | ((first | (apply H.ar; (iterate 4 exact rfl)) | (apply H.conv_int; (iterate 2 exact rfl))); (first | (apply wr_i64_s1; omega) | (apply wr_i64_n1; omega) | (apply wr_i64_nn; omega) | (apply wr_i64; omega) | (apply wr_u64; omega) | (apply wr_u8; omega) | (apply wr_u16; omega) | rfl); exact rfl)
      | (apply H.pass; (iterate 2 exact rfl))
      | (apply H.pass0; exact rfl)
      | (apply H.pickT; (iterate 4 exact rfl))
      | ((first | apply H.pickF | apply H.extract | apply H.not); (iterate 4 exact rfl))
      | ((first | apply H.ptrNil | apply H.sliceNil); (iterate 5 exact rfl))
      | (apply H.store1; (iterate 4 exact rfl); (repeat (first | exact .here _ _ _ | apply At.there)); (repeat (first | exact .here _ _ _ | apply SetV.there)))
      | (apply H.cond_true; exact rfl)
      | (apply H.cond_false; exact rfl)
      | (first | apply H.skip | apply H.ret | apply H.then_ret | apply H.then_exit | apply H.exit | apply H.block | apply H.in_normal | apply H.in_ret | apply H.in_hit | apply H.loop_ret | apply H.loop_exit)
      | (apply H.in_miss; exact rfl)
      | (apply H.gyes; (iterate 3 exact rfl); (first | assumption | omega))
      | (apply H.gno; (iterate 3 exact rfl); (first | assumption | omega))
      | (apply H.cond_yes; exact rfl; (first | assumption | omega))
      | (apply H.cond_no; exact rfl; (first | assumption | omega))
      | ((first | apply H.gtrue); (iterate 3 exact rfl); assumption)
      | (apply H.gfalse; (iterate 3 exact rfl); assumption)
      | (apply H.cond_t; exact rfl; assumption)
      | (apply H.cond_f; exact rfl; assumption))
    refine H.call rfl rfl rfl (open_fn f F b s hn v) fun _ _ _ hR => ?_
    obtain ⟨rfl, rfl, rfl⟩ := hR
    rw [ho]
    repeat (
      first
      | ((first | apply H.move | apply H.assign | apply H.nilCheck | apply H.len_slice); (iterate 3 exact rfl))
      | (apply H.fieldAddr; (iterate 3 exact rfl); exact inferInstance; exact rfl)
      | (apply H.load1; (iterate 3 exact rfl); apply Rd1.ofRow; (repeat (first | exact .here _ _ _ | apply At.there)); (iterate 2 exact rfl))
      | (first | apply H.seq | apply H.region | apply H.nil | apply H.then_normal)
      | ((first | apply H.cmp | apply H.build); (iterate 5 exact rfl))
      | ((first | (apply H.ar; (iterate 4 exact rfl)) | (apply H.conv_int; (iterate 2 exact rfl))); (first | (apply wr_i64_s1; omega) | (apply wr_i64_n1; omega) | (apply wr_i64_nn; omega) | (apply wr_i64; omega) | (apply wr_u64; omega) | (apply wr_u8; omega) | (apply wr_u16; omega) | rfl); exact rfl)
      | (apply H.pass; (iterate 2 exact rfl))
      | (apply H.pass0; exact rfl)
      | (apply H.pickT; (iterate 4 exact rfl))
      | ((first | apply H.pickF | apply H.extract | apply H.not); (iterate 4 exact rfl))
      | ((first | apply H.ptrNil | apply H.sliceNil); (iterate 5 exact rfl))
      | (apply H.store1; (iterate 4 exact rfl); (repeat (first | exact .here _ _ _ | apply At.there)); (repeat (first | exact .here _ _ _ | apply SetV.there)))
      | (apply H.cond_true; exact rfl)
      | (apply H.cond_false; exact rfl)
      | (first | apply H.skip | apply H.ret | apply H.then_ret | apply H.then_exit | apply H.exit | apply H.block | apply H.in_normal | apply H.in_ret | apply H.in_hit | apply H.loop_ret | apply H.loop_exit)
      | (apply H.in_miss; exact rfl)
      | (apply H.gyes; (iterate 3 exact rfl); (first | assumption | omega))
      | (apply H.gno; (iterate 3 exact rfl); (first | assumption | omega))
      | (apply H.cond_yes; exact rfl; (first | assumption | omega))
      | (apply H.cond_no; exact rfl; (first | assumption | omega))
      | ((first | apply H.gtrue); (iterate 3 exact rfl); assumption)
      | (apply H.gfalse; (iterate 3 exact rfl); assumption)
      | (apply H.cond_t; exact rfl; assumption)
      | (apply H.cond_f; exact rfl; assumption))
    refine H.unfold (fun _ h => h) fun ⟨eb, ec, mb⟩ => ?_
    show H _ _ _ _ _ (row _ _ _ :: slc _ _ _ _ _ _ :: mp _ _ _ :: F) _
    repeat (
      first
      | ((first | apply H.move | apply H.assign | apply H.nilCheck | apply H.len_slice); (iterate 3 exact rfl))
      | (apply H.fieldAddr; (iterate 3 exact rfl); exact inferInstance; exact rfl)
      | (apply H.load1; (iterate 3 exact rfl); apply Rd1.ofRow; (repeat (first | exact .here _ _ _ | apply At.there)); (iterate 2 exact rfl))
      | (first | apply H.seq | apply H.region | apply H.nil | apply H.then_normal)
      | ((first | apply H.cmp | apply H.build); (iterate 5 exact rfl))
      | ((first | (apply H.ar; (iterate 4 exact rfl)) | (apply H.conv_int; (iterate 2 exact rfl))); (first | (apply wr_i64_s1; omega) | (apply wr_i64_n1; omega) | (apply wr_i64_nn; omega) | (apply wr_i64; omega) | (apply wr_u64; omega) | (apply wr_u8; omega) | (apply wr_u16; omega) | rfl); exact rfl)
      | (apply H.pass; (iterate 2 exact rfl))
      | (apply H.pass0; exact rfl)
      | (apply H.pickT; (iterate 4 exact rfl))
      | ((first | apply H.pickF | apply H.extract | apply H.not); (iterate 4 exact rfl))
      | ((first | apply H.ptrNil | apply H.sliceNil); (iterate 5 exact rfl))
      | (apply H.store1; (iterate 4 exact rfl); (repeat (first | exact .here _ _ _ | apply At.there)); (repeat (first | exact .here _ _ _ | apply SetV.there)))
      | (apply H.cond_true; exact rfl)
      | (apply H.cond_false; exact rfl)
      | (first | apply H.skip | apply H.ret | apply H.then_ret | apply H.then_exit | apply H.exit | apply H.block | apply H.in_normal | apply H.in_ret | apply H.in_hit | apply H.loop_ret | apply H.loop_exit)
      | (apply H.in_miss; exact rfl)
      | (apply H.gyes; (iterate 3 exact rfl); (first | assumption | omega))
      | (apply H.gno; (iterate 3 exact rfl); (first | assumption | omega))
      | (apply H.cond_yes; exact rfl; (first | assumption | omega))
      | (apply H.cond_no; exact rfl; (first | assumption | omega))
      | ((first | apply H.gtrue); (iterate 3 exact rfl); assumption)
      | (apply H.gfalse; (iterate 3 exact rfl); assumption)
      | (apply H.cond_t; exact rfl; assumption)
      | (apply H.cond_f; exact rfl; assumption))
    refine H.lookup rfl rfl rfl (by repeat (first | exact .here _ _ _ | apply At.there)) rfl hgk rfl ?_
    repeat (
      first
      | ((first | apply H.move | apply H.assign | apply H.nilCheck | apply H.len_slice); (iterate 3 exact rfl))
      | (apply H.fieldAddr; (iterate 3 exact rfl); exact inferInstance; exact rfl)
      | (apply H.load1; (iterate 3 exact rfl); apply Rd1.ofRow; (repeat (first | exact .here _ _ _ | apply At.there)); (iterate 2 exact rfl))
      | (first | apply H.seq | apply H.region | apply H.nil | apply H.then_normal)
      | ((first | apply H.cmp | apply H.build); (iterate 5 exact rfl))
      | ((first | (apply H.ar; (iterate 4 exact rfl)) | (apply H.conv_int; (iterate 2 exact rfl))); (first | (apply wr_i64_s1; omega) | (apply wr_i64_n1; omega) | (apply wr_i64_nn; omega) | (apply wr_i64; omega) | (apply wr_u64; omega) | (apply wr_u8; omega) | (apply wr_u16; omega) | rfl); exact rfl)
      | (apply H.pass; (iterate 2 exact rfl))
      | (apply H.pass0; exact rfl)
      | (apply H.pickT; (iterate 4 exact rfl))
      | ((first | apply H.pickF | apply H.extract | apply H.not); (iterate 4 exact rfl))
      | ((first | apply H.ptrNil | apply H.sliceNil); (iterate 5 exact rfl))
      | (apply H.store1; (iterate 4 exact rfl); (repeat (first | exact .here _ _ _ | apply At.there)); (repeat (first | exact .here _ _ _ | apply SetV.there)))
      | (apply H.cond_true; exact rfl)
      | (apply H.cond_false; exact rfl)
      | (first | apply H.skip | apply H.ret | apply H.then_ret | apply H.then_exit | apply H.exit | apply H.block | apply H.in_normal | apply H.in_ret | apply H.in_hit | apply H.loop_ret | apply H.loop_exit)
      | (apply H.in_miss; exact rfl)
      | (apply H.gyes; (iterate 3 exact rfl); (first | assumption | omega))
      | (apply H.gno; (iterate 3 exact rfl); (first | assumption | omega))
      | (apply H.cond_yes; exact rfl; (first | assumption | omega))
      | (apply H.cond_no; exact rfl; (first | assumption | omega))
      | ((first | apply H.gtrue); (iterate 3 exact rfl); assumption)
      | (apply H.gfalse; (iterate 3 exact rfl); assumption)
      | (apply H.cond_t; exact rfl; assumption)
      | (apply H.cond_f; exact rfl; assumption))
    refine H.mapUpdate rfl rfl rfl rfl (by repeat (first | exact .here _ _ _ | apply At.there)) rfl ?_
    rw [hput]
    repeat (
      first
      | ((first | apply H.move | apply H.assign | apply H.nilCheck | apply H.len_slice); (iterate 3 exact rfl))
      | (apply H.fieldAddr; (iterate 3 exact rfl); exact inferInstance; exact rfl)
      | (apply H.load1; (iterate 3 exact rfl); apply Rd1.ofRow; (repeat (first | exact .here _ _ _ | apply At.there)); (iterate 2 exact rfl))
      | (first | apply H.seq | apply H.region | apply H.nil | apply H.then_normal)
      | ((first | apply H.cmp | apply H.build); (iterate 5 exact rfl))
      | ((first | (apply H.ar; (iterate 4 exact rfl)) | (apply H.conv_int; (iterate 2 exact rfl))); (first | (apply wr_i64_s1; omega) | (apply wr_i64_n1; omega) | (apply wr_i64_nn; omega) | (apply wr_i64; omega) | (apply wr_u64; omega) | (apply wr_u8; omega) | (apply wr_u16; omega) | rfl); exact rfl)
      | (apply H.pass; (iterate 2 exact rfl))
      | (apply H.pass0; exact rfl)
      | (apply H.pickT; (iterate 4 exact rfl))
      | ((first | apply H.pickF | apply H.extract | apply H.not); (iterate 4 exact rfl))
      | ((first | apply H.ptrNil | apply H.sliceNil); (iterate 5 exact rfl))
      | (apply H.store1; (iterate 4 exact rfl); (repeat (first | exact .here _ _ _ | apply At.there)); (repeat (first | exact .here _ _ _ | apply SetV.there)))
      | (apply H.cond_true; exact rfl)
      | (apply H.cond_false; exact rfl)
      | (first | apply H.skip | apply H.ret | apply H.then_ret | apply H.then_exit | apply H.exit | apply H.block | apply H.in_normal | apply H.in_ret | apply H.in_hit | apply H.loop_ret | apply H.loop_exit)
      | (apply H.in_miss; exact rfl)
      | (apply H.gyes; (iterate 3 exact rfl); (first | assumption | omega))
      | (apply H.gno; (iterate 3 exact rfl); (first | assumption | omega))
      | (apply H.cond_yes; exact rfl; (first | assumption | omega))
      | (apply H.cond_no; exact rfl; (first | assumption | omega))
      | ((first | apply H.gtrue); (iterate 3 exact rfl); assumption)
      | (apply H.gfalse; (iterate 3 exact rfl); assumption)
      | (apply H.cond_t; exact rfl; assumption)
      | (apply H.cond_f; exact rfl; assumption))
    refine H.ret1 rfl rfl (A' := pastH b (s.prepare v) :: F) ?_ ⟨rfl, rfl, rfl⟩
    have hf := pastH_fold (b := b) (eb := eb) (ec := ec) (mb := mb) (s := { s with ln := s.ln + 1 }) (F := F)
    rw [show s.prepare v = { s with ln := s.ln + 1 } by simp [PM.prepare, ho]]
    rw [show viewsV ({ s with ln := s.ln + 1 } : PM).all = viewsV s.all by simp [viewsV, PM.all]] at hf
    exact hf

theorem commit_fn {B : Int} (hw : PM.WF s B) (hB : B ≤ 9000000000000000000) (hn : s.init.length ≤ 1000000) (v k most : Int) (hk : 0 ≤ k ∧ k ≤ 18446744073709551615) (hm : -9223372036854775808 ≤ most ∧ most ≤ 9223372036854775807) :
    Fn Try.prog 16 [.pointer (some ⟨b, 0, none⟩), .int .u64 v, .int .u64 k, .int .i64 most] f (pastH b s :: F) (Ret (.bool (s.commitOk v k most)) f (pastH b (s.commit v k most) :: F)) := by
  have hl := hw.last
  cases ho : s.isOpen v with
  | false =>
    have e : s.commitOk v k most = false := by simp [PM.isOpen] at ho; simp [PM.commitOk]; omega
    refine Fn.enter Try.func16 rfl Try.ntmps16 rfl (L := [(0, _), (1, _), (2, _), (3, _)]) ⟨rfl, rfl, rfl, rfl, trivial⟩ fun base => ?_
    repeat (
      first
      | ((first | apply H.move | apply H.assign | apply H.nilCheck | apply H.len_slice); (iterate 3 exact rfl))
      | (apply H.fieldAddr; (iterate 3 exact rfl); exact inferInstance; exact rfl)
      | (apply H.load1; (iterate 3 exact rfl); apply Rd1.ofRow; (repeat (first | exact .here _ _ _ | apply At.there)); (iterate 2 exact rfl))
      | (first | apply H.seq | apply H.region | apply H.nil | apply H.then_normal)
      | ((first | apply H.cmp | apply H.build); (iterate 5 exact rfl))
      | ((first | (apply H.ar; (iterate 4 exact rfl)) | (apply H.conv_int; (iterate 2 exact rfl))); (first | (apply wr_i64_s1; omega) | (apply wr_i64_n1; omega) | (apply wr_i64_nn; omega) | (apply wr_i64; omega) | (apply wr_u64; omega) | (apply wr_u8; omega) | (apply wr_u16; omega) | rfl); exact rfl)
      | (apply H.pass; (iterate 2 exact rfl))
      | (apply H.pass0; exact rfl)
      | (apply H.pickT; (iterate 4 exact rfl))
      | ((first | apply H.pickF | apply H.extract | apply H.not); (iterate 4 exact rfl))
      | ((first | apply H.ptrNil | apply H.sliceNil); (iterate 5 exact rfl))
      | (apply H.store1; (iterate 4 exact rfl); (repeat (first | exact .here _ _ _ | apply At.there)); (repeat (first | exact .here _ _ _ | apply SetV.there)))
      | (apply H.cond_true; exact rfl)
      | (apply H.cond_false; exact rfl)
      | (first | apply H.skip | apply H.ret | apply H.then_ret | apply H.then_exit | apply H.exit | apply H.block | apply H.in_normal | apply H.in_ret | apply H.in_hit | apply H.loop_ret | apply H.loop_exit)
      | (apply H.in_miss; exact rfl)
      | (apply H.gyes; (iterate 3 exact rfl); (first | assumption | omega))
      | (apply H.gno; (iterate 3 exact rfl); (first | assumption | omega))
      | (apply H.cond_yes; exact rfl; (first | assumption | omega))
      | (apply H.cond_no; exact rfl; (first | assumption | omega))
      | ((first | apply H.gtrue); (iterate 3 exact rfl); assumption)
      | (apply H.gfalse; (iterate 3 exact rfl); assumption)
      | (apply H.cond_t; exact rfl; assumption)
      | (apply H.cond_f; exact rfl; assumption))
    refine H.call rfl rfl rfl (open_fn f F b s hn v) fun _ _ _ hR => ?_
    obtain ⟨rfl, rfl, rfl⟩ := hR
    rw [ho]
    repeat (
      first
      | ((first | apply H.move | apply H.assign | apply H.nilCheck | apply H.len_slice); (iterate 3 exact rfl))
      | (apply H.fieldAddr; (iterate 3 exact rfl); exact inferInstance; exact rfl)
      | (apply H.load1; (iterate 3 exact rfl); apply Rd1.ofRow; (repeat (first | exact .here _ _ _ | apply At.there)); (iterate 2 exact rfl))
      | (first | apply H.seq | apply H.region | apply H.nil | apply H.then_normal)
      | ((first | apply H.cmp | apply H.build); (iterate 5 exact rfl))
      | ((first | (apply H.ar; (iterate 4 exact rfl)) | (apply H.conv_int; (iterate 2 exact rfl))); (first | (apply wr_i64_s1; omega) | (apply wr_i64_n1; omega) | (apply wr_i64_nn; omega) | (apply wr_i64; omega) | (apply wr_u64; omega) | (apply wr_u8; omega) | (apply wr_u16; omega) | rfl); exact rfl)
      | (apply H.pass; (iterate 2 exact rfl))
      | (apply H.pass0; exact rfl)
      | (apply H.pickT; (iterate 4 exact rfl))
      | ((first | apply H.pickF | apply H.extract | apply H.not); (iterate 4 exact rfl))
      | ((first | apply H.ptrNil | apply H.sliceNil); (iterate 5 exact rfl))
      | (apply H.store1; (iterate 4 exact rfl); (repeat (first | exact .here _ _ _ | apply At.there)); (repeat (first | exact .here _ _ _ | apply SetV.there)))
      | (apply H.cond_true; exact rfl)
      | (apply H.cond_false; exact rfl)
      | (first | apply H.skip | apply H.ret | apply H.then_ret | apply H.then_exit | apply H.exit | apply H.block | apply H.in_normal | apply H.in_ret | apply H.in_hit | apply H.loop_ret | apply H.loop_exit)
      | (apply H.in_miss; exact rfl)
      | (apply H.gyes; (iterate 3 exact rfl); (first | assumption | omega))
      | (apply H.gno; (iterate 3 exact rfl); (first | assumption | omega))
      | (apply H.cond_yes; exact rfl; (first | assumption | omega))
      | (apply H.cond_no; exact rfl; (first | assumption | omega))
      | ((first | apply H.gtrue); (iterate 3 exact rfl); assumption)
      | (apply H.gfalse; (iterate 3 exact rfl); assumption)
      | (apply H.cond_t; exact rfl; assumption)
      | (apply H.cond_f; exact rfl; assumption))
    exact H.ret1 rfl rfl (fun _ h => h) ⟨by rw [e], rfl, by simp [PM.commit, e]⟩
  | true =>
    have hv : v = s.lv := by simp [PM.isOpen] at ho; exact ho.2
    have hvg : v = s.g := by simp [PM.isOpen] at ho; exact ho.1
    have hgk : (getKV (PM.kv s.all) v).getD (.int .i64 0) = .int .i64 s.ln := by rw [PM.getKV_kv, hv, PM.voted_last hw]; rfl
    have hput : putKV (PM.kv s.all) v (.int .i64 (s.ln + 1)) = PM.kv ({ s with ln := s.ln + 1 } : PM).all := by rw [hv]; exact hw.kv_bump
    by_cases h1 : most < 0
    · have e : s.commitOk v k most = false := by simp [PM.commitOk]; omega
      clear hvg hv
      refine Fn.enter Try.func16 rfl Try.ntmps16 rfl (L := [(0, _), (1, _), (2, _), (3, _)]) ⟨rfl, rfl, rfl, rfl, trivial⟩ fun base => ?_
      repeat (
        first
        | ((first | apply H.move | apply H.assign | apply H.nilCheck | apply H.len_slice); (iterate 3 exact rfl))
        | (apply H.fieldAddr; (iterate 3 exact rfl); exact inferInstance; exact rfl)
        | (apply H.load1; (iterate 3 exact rfl); apply Rd1.ofRow; (repeat (first | exact .here _ _ _ | apply At.there)); (iterate 2 exact rfl))
        | (first | apply H.seq | apply H.region | apply H.nil | apply H.then_normal)
        | ((first | apply H.cmp | apply H.build); (iterate 5 exact rfl))
        | ((first | (apply H.ar; (iterate 4 exact rfl)) | (apply H.conv_int; (iterate 2 exact rfl))); (first | (apply wr_i64_s1; omega) | (apply wr_i64_n1; omega) | (apply wr_i64_nn; omega) | (apply wr_i64; omega) | (apply wr_u64; omega) | (apply wr_u8; omega) | (apply wr_u16; omega) | rfl); exact rfl)
        | (apply H.pass; (iterate 2 exact rfl))
        | (apply H.pass0; exact rfl)
        | (apply H.pickT; (iterate 4 exact rfl))
        | ((first | apply H.pickF | apply H.extract | apply H.not); (iterate 4 exact rfl))
        | ((first | apply H.ptrNil | apply H.sliceNil); (iterate 5 exact rfl))
        | (apply H.store1; (iterate 4 exact rfl); (repeat (first | exact .here _ _ _ | apply At.there)); (repeat (first | exact .here _ _ _ | apply SetV.there)))
        | (apply H.cond_true; exact rfl)
        | (apply H.cond_false; exact rfl)
        | (first | apply H.skip | apply H.ret | apply H.then_ret | apply H.then_exit | apply H.exit | apply H.block | apply H.in_normal | apply H.in_ret | apply H.in_hit | apply H.loop_ret | apply H.loop_exit)
        | (apply H.in_miss; exact rfl)
        | (apply H.gyes; (iterate 3 exact rfl); (first | assumption | omega))
        | (apply H.gno; (iterate 3 exact rfl); (first | assumption | omega))
        | (apply H.cond_yes; exact rfl; (first | assumption | omega))
        | (apply H.cond_no; exact rfl; (first | assumption | omega))
        | ((first | apply H.gtrue); (iterate 3 exact rfl); assumption)
        | (apply H.gfalse; (iterate 3 exact rfl); assumption)
        | (apply H.cond_t; exact rfl; assumption)
        | (apply H.cond_f; exact rfl; assumption))
      refine H.call rfl rfl rfl (open_fn f F b s hn v) fun _ _ _ hR => ?_
      obtain ⟨rfl, rfl, rfl⟩ := hR
      rw [ho]
      repeat (
        first
        | ((first | apply H.move | apply H.assign | apply H.nilCheck | apply H.len_slice); (iterate 3 exact rfl))
        | (apply H.fieldAddr; (iterate 3 exact rfl); exact inferInstance; exact rfl)
        | (apply H.load1; (iterate 3 exact rfl); apply Rd1.ofRow; (repeat (first | exact .here _ _ _ | apply At.there)); (iterate 2 exact rfl))
        | (first | apply H.seq | apply H.region | apply H.nil | apply H.then_normal)
        | ((first | apply H.cmp | apply H.build); (iterate 5 exact rfl))
        | ((first | (apply H.ar; (iterate 4 exact rfl)) | (apply H.conv_int; (iterate 2 exact rfl))); (first | (apply wr_i64_s1; omega) | (apply wr_i64_n1; omega) | (apply wr_i64_nn; omega) | (apply wr_i64; omega) | (apply wr_u64; omega) | (apply wr_u8; omega) | (apply wr_u16; omega) | rfl); exact rfl)
        | (apply H.pass; (iterate 2 exact rfl))
        | (apply H.pass0; exact rfl)
        | (apply H.pickT; (iterate 4 exact rfl))
        | ((first | apply H.pickF | apply H.extract | apply H.not); (iterate 4 exact rfl))
        | ((first | apply H.ptrNil | apply H.sliceNil); (iterate 5 exact rfl))
        | (apply H.store1; (iterate 4 exact rfl); (repeat (first | exact .here _ _ _ | apply At.there)); (repeat (first | exact .here _ _ _ | apply SetV.there)))
        | (apply H.cond_true; exact rfl)
        | (apply H.cond_false; exact rfl)
        | (first | apply H.skip | apply H.ret | apply H.then_ret | apply H.then_exit | apply H.exit | apply H.block | apply H.in_normal | apply H.in_ret | apply H.in_hit | apply H.loop_ret | apply H.loop_exit)
        | (apply H.in_miss; exact rfl)
        | (apply H.gyes; (iterate 3 exact rfl); (first | assumption | omega))
        | (apply H.gno; (iterate 3 exact rfl); (first | assumption | omega))
        | (apply H.cond_yes; exact rfl; (first | assumption | omega))
        | (apply H.cond_no; exact rfl; (first | assumption | omega))
        | ((first | apply H.gtrue); (iterate 3 exact rfl); assumption)
        | (apply H.gfalse; (iterate 3 exact rfl); assumption)
        | (apply H.cond_t; exact rfl; assumption)
        | (apply H.cond_f; exact rfl; assumption))
      exact H.ret1 rfl rfl (fun _ h => h) ⟨by rw [e], rfl, by simp [PM.commit, e]⟩
    · by_cases h2 : most < k
      · have e : s.commitOk v k most = false := by simp [PM.commitOk]; omega
        clear hvg hv
        refine Fn.enter Try.func16 rfl Try.ntmps16 rfl (L := [(0, _), (1, _), (2, _), (3, _)]) ⟨rfl, rfl, rfl, rfl, trivial⟩ fun base => ?_
        repeat (
          first
          | ((first | apply H.move | apply H.assign | apply H.nilCheck | apply H.len_slice); (iterate 3 exact rfl))
          | (apply H.fieldAddr; (iterate 3 exact rfl); exact inferInstance; exact rfl)
          | (apply H.load1; (iterate 3 exact rfl); apply Rd1.ofRow; (repeat (first | exact .here _ _ _ | apply At.there)); (iterate 2 exact rfl))
          | (first | apply H.seq | apply H.region | apply H.nil | apply H.then_normal)
          | ((first | apply H.cmp | apply H.build); (iterate 5 exact rfl))
          | ((first | (apply H.ar; (iterate 4 exact rfl)) | (apply H.conv_int; (iterate 2 exact rfl))); (first | (apply wr_i64_s1; omega) | (apply wr_i64_n1; omega) | (apply wr_i64_nn; omega) | (apply wr_i64; omega) | (apply wr_u64; omega) | (apply wr_u8; omega) | (apply wr_u16; omega) | rfl); exact rfl)
          | (apply H.pass; (iterate 2 exact rfl))
          | (apply H.pass0; exact rfl)
          | (apply H.pickT; (iterate 4 exact rfl))
          | ((first | apply H.pickF | apply H.extract | apply H.not); (iterate 4 exact rfl))
          | ((first | apply H.ptrNil | apply H.sliceNil); (iterate 5 exact rfl))
          | (apply H.store1; (iterate 4 exact rfl); (repeat (first | exact .here _ _ _ | apply At.there)); (repeat (first | exact .here _ _ _ | apply SetV.there)))
          | (apply H.cond_true; exact rfl)
          | (apply H.cond_false; exact rfl)
          | (first | apply H.skip | apply H.ret | apply H.then_ret | apply H.then_exit | apply H.exit | apply H.block | apply H.in_normal | apply H.in_ret | apply H.in_hit | apply H.loop_ret | apply H.loop_exit)
          | (apply H.in_miss; exact rfl)
          | (apply H.gyes; (iterate 3 exact rfl); (first | assumption | omega))
          | (apply H.gno; (iterate 3 exact rfl); (first | assumption | omega))
          | (apply H.cond_yes; exact rfl; (first | assumption | omega))
          | (apply H.cond_no; exact rfl; (first | assumption | omega))
          | ((first | apply H.gtrue); (iterate 3 exact rfl); assumption)
          | (apply H.gfalse; (iterate 3 exact rfl); assumption)
          | (apply H.cond_t; exact rfl; assumption)
          | (apply H.cond_f; exact rfl; assumption))
        refine H.call rfl rfl rfl (open_fn f F b s hn v) fun _ _ _ hR => ?_
        obtain ⟨rfl, rfl, rfl⟩ := hR
        rw [ho]
        repeat (
          first
          | ((first | apply H.move | apply H.assign | apply H.nilCheck | apply H.len_slice); (iterate 3 exact rfl))
          | (apply H.fieldAddr; (iterate 3 exact rfl); exact inferInstance; exact rfl)
          | (apply H.load1; (iterate 3 exact rfl); apply Rd1.ofRow; (repeat (first | exact .here _ _ _ | apply At.there)); (iterate 2 exact rfl))
          | (first | apply H.seq | apply H.region | apply H.nil | apply H.then_normal)
          | ((first | apply H.cmp | apply H.build); (iterate 5 exact rfl))
          | ((first | (apply H.ar; (iterate 4 exact rfl)) | (apply H.conv_int; (iterate 2 exact rfl))); (first | (apply wr_i64_s1; omega) | (apply wr_i64_n1; omega) | (apply wr_i64_nn; omega) | (apply wr_i64; omega) | (apply wr_u64; omega) | (apply wr_u8; omega) | (apply wr_u16; omega) | rfl); exact rfl)
          | (apply H.pass; (iterate 2 exact rfl))
          | (apply H.pass0; exact rfl)
          | (apply H.pickT; (iterate 4 exact rfl))
          | ((first | apply H.pickF | apply H.extract | apply H.not); (iterate 4 exact rfl))
          | ((first | apply H.ptrNil | apply H.sliceNil); (iterate 5 exact rfl))
          | (apply H.store1; (iterate 4 exact rfl); (repeat (first | exact .here _ _ _ | apply At.there)); (repeat (first | exact .here _ _ _ | apply SetV.there)))
          | (apply H.cond_true; exact rfl)
          | (apply H.cond_false; exact rfl)
          | (first | apply H.skip | apply H.ret | apply H.then_ret | apply H.then_exit | apply H.exit | apply H.block | apply H.in_normal | apply H.in_ret | apply H.in_hit | apply H.loop_ret | apply H.loop_exit)
          | (apply H.in_miss; exact rfl)
          | (apply H.gyes; (iterate 3 exact rfl); (first | assumption | omega))
          | (apply H.gno; (iterate 3 exact rfl); (first | assumption | omega))
          | (apply H.cond_yes; exact rfl; (first | assumption | omega))
          | (apply H.cond_no; exact rfl; (first | assumption | omega))
          | ((first | apply H.gtrue); (iterate 3 exact rfl); assumption)
          | (apply H.gfalse; (iterate 3 exact rfl); assumption)
          | (apply H.cond_t; exact rfl; assumption)
          | (apply H.cond_f; exact rfl; assumption))
        exact H.ret1 rfl rfl (fun _ h => h) ⟨by rw [e], rfl, by simp [PM.commit, e]⟩
      · have e : s.commitOk v k most = decide (k = s.ln + 1) := by rw [Bool.eq_iff_iff]; simp [PM.commitOk]; omega
        clear hvg hv
        refine Fn.enter Try.func16 rfl Try.ntmps16 rfl (L := [(0, _), (1, _), (2, _), (3, _)]) ⟨rfl, rfl, rfl, rfl, trivial⟩ fun base => ?_
        repeat (
          first
          | ((first | apply H.move | apply H.assign | apply H.nilCheck | apply H.len_slice); (iterate 3 exact rfl))
          | (apply H.fieldAddr; (iterate 3 exact rfl); exact inferInstance; exact rfl)
          | (apply H.load1; (iterate 3 exact rfl); apply Rd1.ofRow; (repeat (first | exact .here _ _ _ | apply At.there)); (iterate 2 exact rfl))
          | (first | apply H.seq | apply H.region | apply H.nil | apply H.then_normal)
          | ((first | apply H.cmp | apply H.build); (iterate 5 exact rfl))
          | ((first | (apply H.ar; (iterate 4 exact rfl)) | (apply H.conv_int; (iterate 2 exact rfl))); (first | (apply wr_i64_s1; omega) | (apply wr_i64_n1; omega) | (apply wr_i64_nn; omega) | (apply wr_i64; omega) | (apply wr_u64; omega) | (apply wr_u8; omega) | (apply wr_u16; omega) | rfl); exact rfl)
          | (apply H.pass; (iterate 2 exact rfl))
          | (apply H.pass0; exact rfl)
          | (apply H.pickT; (iterate 4 exact rfl))
          | ((first | apply H.pickF | apply H.extract | apply H.not); (iterate 4 exact rfl))
          | ((first | apply H.ptrNil | apply H.sliceNil); (iterate 5 exact rfl))
          | (apply H.store1; (iterate 4 exact rfl); (repeat (first | exact .here _ _ _ | apply At.there)); (repeat (first | exact .here _ _ _ | apply SetV.there)))
          | (apply H.cond_true; exact rfl)
          | (apply H.cond_false; exact rfl)
          | (first | apply H.skip | apply H.ret | apply H.then_ret | apply H.then_exit | apply H.exit | apply H.block | apply H.in_normal | apply H.in_ret | apply H.in_hit | apply H.loop_ret | apply H.loop_exit)
          | (apply H.in_miss; exact rfl)
          | (apply H.gyes; (iterate 3 exact rfl); (first | assumption | omega))
          | (apply H.gno; (iterate 3 exact rfl); (first | assumption | omega))
          | (apply H.cond_yes; exact rfl; (first | assumption | omega))
          | (apply H.cond_no; exact rfl; (first | assumption | omega))
          | ((first | apply H.gtrue); (iterate 3 exact rfl); assumption)
          | (apply H.gfalse; (iterate 3 exact rfl); assumption)
          | (apply H.cond_t; exact rfl; assumption)
          | (apply H.cond_f; exact rfl; assumption))
        refine H.call rfl rfl rfl (open_fn f F b s hn v) fun _ _ _ hR => ?_
        obtain ⟨rfl, rfl, rfl⟩ := hR
        rw [ho]
        repeat (
          first
          | ((first | apply H.move | apply H.assign | apply H.nilCheck | apply H.len_slice); (iterate 3 exact rfl))
          | (apply H.fieldAddr; (iterate 3 exact rfl); exact inferInstance; exact rfl)
          | (apply H.load1; (iterate 3 exact rfl); apply Rd1.ofRow; (repeat (first | exact .here _ _ _ | apply At.there)); (iterate 2 exact rfl))
          | (first | apply H.seq | apply H.region | apply H.nil | apply H.then_normal)
          | ((first | apply H.cmp | apply H.build); (iterate 5 exact rfl))
          | ((first | (apply H.ar; (iterate 4 exact rfl)) | (apply H.conv_int; (iterate 2 exact rfl))); (first | (apply wr_i64_s1; omega) | (apply wr_i64_n1; omega) | (apply wr_i64_nn; omega) | (apply wr_i64; omega) | (apply wr_u64; omega) | (apply wr_u8; omega) | (apply wr_u16; omega) | rfl); exact rfl)
          | (apply H.pass; (iterate 2 exact rfl))
          | (apply H.pass0; exact rfl)
          | (apply H.pickT; (iterate 4 exact rfl))
          | ((first | apply H.pickF | apply H.extract | apply H.not); (iterate 4 exact rfl))
          | ((first | apply H.ptrNil | apply H.sliceNil); (iterate 5 exact rfl))
          | (apply H.store1; (iterate 4 exact rfl); (repeat (first | exact .here _ _ _ | apply At.there)); (repeat (first | exact .here _ _ _ | apply SetV.there)))
          | (apply H.cond_true; exact rfl)
          | (apply H.cond_false; exact rfl)
          | (first | apply H.skip | apply H.ret | apply H.then_ret | apply H.then_exit | apply H.exit | apply H.block | apply H.in_normal | apply H.in_ret | apply H.in_hit | apply H.loop_ret | apply H.loop_exit)
          | (apply H.in_miss; exact rfl)
          | (apply H.gyes; (iterate 3 exact rfl); (first | assumption | omega))
          | (apply H.gno; (iterate 3 exact rfl); (first | assumption | omega))
          | (apply H.cond_yes; exact rfl; (first | assumption | omega))
          | (apply H.cond_no; exact rfl; (first | assumption | omega))
          | ((first | apply H.gtrue); (iterate 3 exact rfl); assumption)
          | (apply H.gfalse; (iterate 3 exact rfl); assumption)
          | (apply H.cond_t; exact rfl; assumption)
          | (apply H.cond_f; exact rfl; assumption))
        refine H.unfold (fun _ h => h) fun ⟨eb, ec, mb⟩ => ?_
        show H _ _ _ _ _ (row _ _ _ :: slc _ _ _ _ _ _ :: mp _ _ _ :: F) _
        repeat (
          first
          | ((first | apply H.move | apply H.assign | apply H.nilCheck | apply H.len_slice); (iterate 3 exact rfl))
          | (apply H.fieldAddr; (iterate 3 exact rfl); exact inferInstance; exact rfl)
          | (apply H.load1; (iterate 3 exact rfl); apply Rd1.ofRow; (repeat (first | exact .here _ _ _ | apply At.there)); (iterate 2 exact rfl))
          | (first | apply H.seq | apply H.region | apply H.nil | apply H.then_normal)
          | ((first | apply H.cmp | apply H.build); (iterate 5 exact rfl))
          | ((first | (apply H.ar; (iterate 4 exact rfl)) | (apply H.conv_int; (iterate 2 exact rfl))); (first | (apply wr_i64_s1; omega) | (apply wr_i64_n1; omega) | (apply wr_i64_nn; omega) | (apply wr_i64; omega) | (apply wr_u64; omega) | (apply wr_u8; omega) | (apply wr_u16; omega) | rfl); exact rfl)
          | (apply H.pass; (iterate 2 exact rfl))
          | (apply H.pass0; exact rfl)
          | (apply H.pickT; (iterate 4 exact rfl))
          | ((first | apply H.pickF | apply H.extract | apply H.not); (iterate 4 exact rfl))
          | ((first | apply H.ptrNil | apply H.sliceNil); (iterate 5 exact rfl))
          | (apply H.store1; (iterate 4 exact rfl); (repeat (first | exact .here _ _ _ | apply At.there)); (repeat (first | exact .here _ _ _ | apply SetV.there)))
          | (apply H.cond_true; exact rfl)
          | (apply H.cond_false; exact rfl)
          | (first | apply H.skip | apply H.ret | apply H.then_ret | apply H.then_exit | apply H.exit | apply H.block | apply H.in_normal | apply H.in_ret | apply H.in_hit | apply H.loop_ret | apply H.loop_exit)
          | (apply H.in_miss; exact rfl)
          | (apply H.gyes; (iterate 3 exact rfl); (first | assumption | omega))
          | (apply H.gno; (iterate 3 exact rfl); (first | assumption | omega))
          | (apply H.cond_yes; exact rfl; (first | assumption | omega))
          | (apply H.cond_no; exact rfl; (first | assumption | omega))
          | ((first | apply H.gtrue); (iterate 3 exact rfl); assumption)
          | (apply H.gfalse; (iterate 3 exact rfl); assumption)
          | (apply H.cond_t; exact rfl; assumption)
          | (apply H.cond_f; exact rfl; assumption))
        refine H.lookup rfl rfl rfl (by repeat (first | exact .here _ _ _ | apply At.there)) rfl hgk rfl ?_
        repeat (
          first
          | ((first | apply H.move | apply H.assign | apply H.nilCheck | apply H.len_slice); (iterate 3 exact rfl))
          | (apply H.fieldAddr; (iterate 3 exact rfl); exact inferInstance; exact rfl)
          | (apply H.load1; (iterate 3 exact rfl); apply Rd1.ofRow; (repeat (first | exact .here _ _ _ | apply At.there)); (iterate 2 exact rfl))
          | (first | apply H.seq | apply H.region | apply H.nil | apply H.then_normal)
          | ((first | apply H.cmp | apply H.build); (iterate 5 exact rfl))
          | ((first | (apply H.ar; (iterate 4 exact rfl)) | (apply H.conv_int; (iterate 2 exact rfl))); (first | (apply wr_i64_s1; omega) | (apply wr_i64_n1; omega) | (apply wr_i64_nn; omega) | (apply wr_i64; omega) | (apply wr_u64; omega) | (apply wr_u8; omega) | (apply wr_u16; omega) | rfl); exact rfl)
          | (apply H.pass; (iterate 2 exact rfl))
          | (apply H.pass0; exact rfl)
          | (apply H.pickT; (iterate 4 exact rfl))
          | ((first | apply H.pickF | apply H.extract | apply H.not); (iterate 4 exact rfl))
          | ((first | apply H.ptrNil | apply H.sliceNil); (iterate 5 exact rfl))
          | (apply H.store1; (iterate 4 exact rfl); (repeat (first | exact .here _ _ _ | apply At.there)); (repeat (first | exact .here _ _ _ | apply SetV.there)))
          | (apply H.cond_true; exact rfl)
          | (apply H.cond_false; exact rfl)
          | (first | apply H.skip | apply H.ret | apply H.then_ret | apply H.then_exit | apply H.exit | apply H.block | apply H.in_normal | apply H.in_ret | apply H.in_hit | apply H.loop_ret | apply H.loop_exit)
          | (apply H.in_miss; exact rfl)
          | (apply H.gyes; (iterate 3 exact rfl); (first | assumption | omega))
          | (apply H.gno; (iterate 3 exact rfl); (first | assumption | omega))
          | (apply H.cond_yes; exact rfl; (first | assumption | omega))
          | (apply H.cond_no; exact rfl; (first | assumption | omega))
          | ((first | apply H.gtrue); (iterate 3 exact rfl); assumption)
          | (apply H.gfalse; (iterate 3 exact rfl); assumption)
          | (apply H.cond_t; exact rfl; assumption)
          | (apply H.cond_f; exact rfl; assumption))
        by_cases h3 : k = s.ln + 1
        · repeat (
          first
          | ((first | apply H.move | apply H.assign | apply H.nilCheck | apply H.len_slice); (iterate 3 exact rfl))
          | (apply H.fieldAddr; (iterate 3 exact rfl); exact inferInstance; exact rfl)
          | (apply H.load1; (iterate 3 exact rfl); apply Rd1.ofRow; (repeat (first | exact .here _ _ _ | apply At.there)); (iterate 2 exact rfl))
          | (first | apply H.seq | apply H.region | apply H.nil | apply H.then_normal)
          | ((first | apply H.cmp | apply H.build); (iterate 5 exact rfl))
          | ((first | (apply H.ar; (iterate 4 exact rfl)) | (apply H.conv_int; (iterate 2 exact rfl))); (first | (apply wr_i64_s1; omega) | (apply wr_i64_n1; omega) | (apply wr_i64_nn; omega) | (apply wr_i64; omega) | (apply wr_u64; omega) | (apply wr_u8; omega) | (apply wr_u16; omega) | rfl); exact rfl)
          | (apply H.pass; (iterate 2 exact rfl))
          | (apply H.pass0; exact rfl)
          | (apply H.pickT; (iterate 4 exact rfl))
          | ((first | apply H.pickF | apply H.extract | apply H.not); (iterate 4 exact rfl))
          | ((first | apply H.ptrNil | apply H.sliceNil); (iterate 5 exact rfl))
          | (apply H.store1; (iterate 4 exact rfl); (repeat (first | exact .here _ _ _ | apply At.there)); (repeat (first | exact .here _ _ _ | apply SetV.there)))
          | (apply H.cond_true; exact rfl)
          | (apply H.cond_false; exact rfl)
          | (first | apply H.skip | apply H.ret | apply H.then_ret | apply H.then_exit | apply H.exit | apply H.block | apply H.in_normal | apply H.in_ret | apply H.in_hit | apply H.loop_ret | apply H.loop_exit)
          | (apply H.in_miss; exact rfl)
          | (apply H.gyes; (iterate 3 exact rfl); (first | assumption | omega))
          | (apply H.gno; (iterate 3 exact rfl); (first | assumption | omega))
          | (apply H.cond_yes; exact rfl; (first | assumption | omega))
          | (apply H.cond_no; exact rfl; (first | assumption | omega))
          | ((first | apply H.gtrue); (iterate 3 exact rfl); assumption)
          | (apply H.gfalse; (iterate 3 exact rfl); assumption)
          | (apply H.cond_t; exact rfl; assumption)
          | (apply H.cond_f; exact rfl; assumption))
          refine H.lookup rfl rfl rfl (by repeat (first | exact .here _ _ _ | apply At.there)) rfl hgk rfl ?_
          repeat (
            first
            | ((first | apply H.move | apply H.assign | apply H.nilCheck | apply H.len_slice); (iterate 3 exact rfl))
            | (apply H.fieldAddr; (iterate 3 exact rfl); exact inferInstance; exact rfl)
            | (apply H.load1; (iterate 3 exact rfl); apply Rd1.ofRow; (repeat (first | exact .here _ _ _ | apply At.there)); (iterate 2 exact rfl))
            | (first | apply H.seq | apply H.region | apply H.nil | apply H.then_normal)
            | ((first | apply H.cmp | apply H.build); (iterate 5 exact rfl))
            | ((first | (apply H.ar; (iterate 4 exact rfl)) | (apply H.conv_int; (iterate 2 exact rfl))); (first | (apply wr_i64_s1; omega) | (apply wr_i64_n1; omega) | (apply wr_i64_nn; omega) | (apply wr_i64; omega) | (apply wr_u64; omega) | (apply wr_u8; omega) | (apply wr_u16; omega) | rfl); exact rfl)
            | (apply H.pass; (iterate 2 exact rfl))
            | (apply H.pass0; exact rfl)
            | (apply H.pickT; (iterate 4 exact rfl))
            | ((first | apply H.pickF | apply H.extract | apply H.not); (iterate 4 exact rfl))
            | ((first | apply H.ptrNil | apply H.sliceNil); (iterate 5 exact rfl))
            | (apply H.store1; (iterate 4 exact rfl); (repeat (first | exact .here _ _ _ | apply At.there)); (repeat (first | exact .here _ _ _ | apply SetV.there)))
            | (apply H.cond_true; exact rfl)
            | (apply H.cond_false; exact rfl)
            | (first | apply H.skip | apply H.ret | apply H.then_ret | apply H.then_exit | apply H.exit | apply H.block | apply H.in_normal | apply H.in_ret | apply H.in_hit | apply H.loop_ret | apply H.loop_exit)
            | (apply H.in_miss; exact rfl)
            | (apply H.gyes; (iterate 3 exact rfl); (first | assumption | omega))
            | (apply H.gno; (iterate 3 exact rfl); (first | assumption | omega))
            | (apply H.cond_yes; exact rfl; (first | assumption | omega))
            | (apply H.cond_no; exact rfl; (first | assumption | omega))
            | ((first | apply H.gtrue); (iterate 3 exact rfl); assumption)
            | (apply H.gfalse; (iterate 3 exact rfl); assumption)
            | (apply H.cond_t; exact rfl; assumption)
            | (apply H.cond_f; exact rfl; assumption))
          refine H.mapUpdate rfl rfl rfl rfl (by repeat (first | exact .here _ _ _ | apply At.there)) rfl ?_
          rw [hput]
          repeat (
            first
            | ((first | apply H.move | apply H.assign | apply H.nilCheck | apply H.len_slice); (iterate 3 exact rfl))
            | (apply H.fieldAddr; (iterate 3 exact rfl); exact inferInstance; exact rfl)
            | (apply H.load1; (iterate 3 exact rfl); apply Rd1.ofRow; (repeat (first | exact .here _ _ _ | apply At.there)); (iterate 2 exact rfl))
            | (first | apply H.seq | apply H.region | apply H.nil | apply H.then_normal)
            | ((first | apply H.cmp | apply H.build); (iterate 5 exact rfl))
            | ((first | (apply H.ar; (iterate 4 exact rfl)) | (apply H.conv_int; (iterate 2 exact rfl))); (first | (apply wr_i64_s1; omega) | (apply wr_i64_n1; omega) | (apply wr_i64_nn; omega) | (apply wr_i64; omega) | (apply wr_u64; omega) | (apply wr_u8; omega) | (apply wr_u16; omega) | rfl); exact rfl)
            | (apply H.pass; (iterate 2 exact rfl))
            | (apply H.pass0; exact rfl)
            | (apply H.pickT; (iterate 4 exact rfl))
            | ((first | apply H.pickF | apply H.extract | apply H.not); (iterate 4 exact rfl))
            | ((first | apply H.ptrNil | apply H.sliceNil); (iterate 5 exact rfl))
            | (apply H.store1; (iterate 4 exact rfl); (repeat (first | exact .here _ _ _ | apply At.there)); (repeat (first | exact .here _ _ _ | apply SetV.there)))
            | (apply H.cond_true; exact rfl)
            | (apply H.cond_false; exact rfl)
            | (first | apply H.skip | apply H.ret | apply H.then_ret | apply H.then_exit | apply H.exit | apply H.block | apply H.in_normal | apply H.in_ret | apply H.in_hit | apply H.loop_ret | apply H.loop_exit)
            | (apply H.in_miss; exact rfl)
            | (apply H.gyes; (iterate 3 exact rfl); (first | assumption | omega))
            | (apply H.gno; (iterate 3 exact rfl); (first | assumption | omega))
            | (apply H.cond_yes; exact rfl; (first | assumption | omega))
            | (apply H.cond_no; exact rfl; (first | assumption | omega))
            | ((first | apply H.gtrue); (iterate 3 exact rfl); assumption)
            | (apply H.gfalse; (iterate 3 exact rfl); assumption)
            | (apply H.cond_t; exact rfl; assumption)
            | (apply H.cond_f; exact rfl; assumption))
          refine H.ret1 rfl rfl (A' := pastH b (s.commit v k most) :: F) ?_ ⟨by rw [e]; simp [h3], rfl, rfl⟩
          have hf := pastH_fold (b := b) (eb := eb) (ec := ec) (mb := mb) (s := { s with ln := s.ln + 1 }) (F := F)
          rw [show s.commit v k most = { s with ln := s.ln + 1 } by unfold PM.commit; rw [if_pos (by rw [e]; simp [h3])]]
          rw [show viewsV ({ s with ln := s.ln + 1 } : PM).all = viewsV s.all by simp [viewsV, PM.all]] at hf
          exact hf
        · repeat (
          first
          | ((first | apply H.move | apply H.assign | apply H.nilCheck | apply H.len_slice); (iterate 3 exact rfl))
          | (apply H.fieldAddr; (iterate 3 exact rfl); exact inferInstance; exact rfl)
          | (apply H.load1; (iterate 3 exact rfl); apply Rd1.ofRow; (repeat (first | exact .here _ _ _ | apply At.there)); (iterate 2 exact rfl))
          | (first | apply H.seq | apply H.region | apply H.nil | apply H.then_normal)
          | ((first | apply H.cmp | apply H.build); (iterate 5 exact rfl))
          | ((first | (apply H.ar; (iterate 4 exact rfl)) | (apply H.conv_int; (iterate 2 exact rfl))); (first | (apply wr_i64_s1; omega) | (apply wr_i64_n1; omega) | (apply wr_i64_nn; omega) | (apply wr_i64; omega) | (apply wr_u64; omega) | (apply wr_u8; omega) | (apply wr_u16; omega) | rfl); exact rfl)
          | (apply H.pass; (iterate 2 exact rfl))
          | (apply H.pass0; exact rfl)
          | (apply H.pickT; (iterate 4 exact rfl))
          | ((first | apply H.pickF | apply H.extract | apply H.not); (iterate 4 exact rfl))
          | ((first | apply H.ptrNil | apply H.sliceNil); (iterate 5 exact rfl))
          | (apply H.store1; (iterate 4 exact rfl); (repeat (first | exact .here _ _ _ | apply At.there)); (repeat (first | exact .here _ _ _ | apply SetV.there)))
          | (apply H.cond_true; exact rfl)
          | (apply H.cond_false; exact rfl)
          | (first | apply H.skip | apply H.ret | apply H.then_ret | apply H.then_exit | apply H.exit | apply H.block | apply H.in_normal | apply H.in_ret | apply H.in_hit | apply H.loop_ret | apply H.loop_exit)
          | (apply H.in_miss; exact rfl)
          | (apply H.gyes; (iterate 3 exact rfl); (first | assumption | omega))
          | (apply H.gno; (iterate 3 exact rfl); (first | assumption | omega))
          | (apply H.cond_yes; exact rfl; (first | assumption | omega))
          | (apply H.cond_no; exact rfl; (first | assumption | omega))
          | ((first | apply H.gtrue); (iterate 3 exact rfl); assumption)
          | (apply H.gfalse; (iterate 3 exact rfl); assumption)
          | (apply H.cond_t; exact rfl; assumption)
          | (apply H.cond_f; exact rfl; assumption))
          exact H.ret1 rfl rfl pastH_fold ⟨by rw [e]; simp [h3], rfl, by simp [PM.commit, e, h3]⟩

theorem enter_fn {B : Int} (hw : PM.WF s B) (hn : s.init.length ≤ 100000) (v k : Int) :
    Fn Try.prog 18 [.pointer (some ⟨b, 0, none⟩), .int .u64 v, .int .i64 k] f (pastH b s :: F) (Ret (.bool (s.enterOk v k)) f (pastH b (s.enter v k) :: F)) := by
  have hl := hw.last
  cases ho : s.enterOk v k with
  | false =>
    have hno : v ≤ s.lv ∨ v < s.g ∨ 1073741824 ≤ v ∨ k < 0 := by simp [PM.enterOk] at ho; omega
    have e2 : s.enter v k = s := by simp [PM.enter, ho]
    rw [e2]
    by_cases h1 : v ≤ s.lv
    · clear hno
      refine Fn.enter Try.func18 rfl Try.ntmps18 rfl (L := [(0, _), (1, _), (2, _)]) ⟨rfl, rfl, rfl, trivial⟩ fun base => ?_
      repeat (
        first
        | ((first | apply H.move | apply H.assign | apply H.nilCheck | apply H.len_slice); (iterate 3 exact rfl))
        | (apply H.fieldAddr; (iterate 3 exact rfl); exact inferInstance; exact rfl)
        | (apply H.load1; (iterate 3 exact rfl); apply Rd1.ofRow; (repeat (first | exact .here _ _ _ | apply At.there)); (iterate 2 exact rfl))
        | (first | apply H.seq | apply H.region | apply H.nil | apply H.then_normal)
        | ((first | apply H.cmp | apply H.build); (iterate 5 exact rfl))
        | ((first | (apply H.ar; (iterate 4 exact rfl)) | (apply H.conv_int; (iterate 2 exact rfl))); (first | (apply wr_i64_s1; omega) | (apply wr_i64_n1; omega) | (apply wr_i64_nn; omega) | (apply wr_i64; omega) | (apply wr_u64; omega) | (apply wr_u8; omega) | (apply wr_u16; omega) | rfl); exact rfl)
        | (apply H.pass; (iterate 2 exact rfl))
        | (apply H.pass0; exact rfl)
        | (apply H.pickT; (iterate 4 exact rfl))
        | ((first | apply H.pickF | apply H.extract | apply H.not); (iterate 4 exact rfl))
        | ((first | apply H.ptrNil | apply H.sliceNil); (iterate 5 exact rfl))
        | (apply H.store1; (iterate 4 exact rfl); (repeat (first | exact .here _ _ _ | apply At.there)); (repeat (first | exact .here _ _ _ | apply SetV.there)))
        | (apply H.cond_true; exact rfl)
        | (apply H.cond_false; exact rfl)
        | (first | apply H.skip | apply H.ret | apply H.then_ret | apply H.then_exit | apply H.exit | apply H.block | apply H.in_normal | apply H.in_ret | apply H.in_hit | apply H.loop_ret | apply H.loop_exit)
        | (apply H.in_miss; exact rfl)
        | (apply H.gyes; (iterate 3 exact rfl); (first | assumption | omega))
        | (apply H.gno; (iterate 3 exact rfl); (first | assumption | omega))
        | (apply H.cond_yes; exact rfl; (first | assumption | omega))
        | (apply H.cond_no; exact rfl; (first | assumption | omega))
        | ((first | apply H.gtrue); (iterate 3 exact rfl); assumption)
        | (apply H.gfalse; (iterate 3 exact rfl); assumption)
        | (apply H.cond_t; exact rfl; assumption)
        | (apply H.cond_f; exact rfl; assumption))
      refine H.call rfl rfl rfl (last_fn f F b s (by omega)) fun _ _ _ hR => ?_
      obtain ⟨rfl, rfl, rfl⟩ := hR
      repeat (
        first
        | ((first | apply H.move | apply H.assign | apply H.nilCheck | apply H.len_slice); (iterate 3 exact rfl))
        | (apply H.fieldAddr; (iterate 3 exact rfl); exact inferInstance; exact rfl)
        | (apply H.load1; (iterate 3 exact rfl); apply Rd1.ofRow; (repeat (first | exact .here _ _ _ | apply At.there)); (iterate 2 exact rfl))
        | (first | apply H.seq | apply H.region | apply H.nil | apply H.then_normal)
        | ((first | apply H.cmp | apply H.build); (iterate 5 exact rfl))
        | ((first | (apply H.ar; (iterate 4 exact rfl)) | (apply H.conv_int; (iterate 2 exact rfl))); (first | (apply wr_i64_s1; omega) | (apply wr_i64_n1; omega) | (apply wr_i64_nn; omega) | (apply wr_i64; omega) | (apply wr_u64; omega) | (apply wr_u8; omega) | (apply wr_u16; omega) | rfl); exact rfl)
        | (apply H.pass; (iterate 2 exact rfl))
        | (apply H.pass0; exact rfl)
        | (apply H.pickT; (iterate 4 exact rfl))
        | ((first | apply H.pickF | apply H.extract | apply H.not); (iterate 4 exact rfl))
        | ((first | apply H.ptrNil | apply H.sliceNil); (iterate 5 exact rfl))
        | (apply H.store1; (iterate 4 exact rfl); (repeat (first | exact .here _ _ _ | apply At.there)); (repeat (first | exact .here _ _ _ | apply SetV.there)))
        | (apply H.cond_true; exact rfl)
        | (apply H.cond_false; exact rfl)
        | (first | apply H.skip | apply H.ret | apply H.then_ret | apply H.then_exit | apply H.exit | apply H.block | apply H.in_normal | apply H.in_ret | apply H.in_hit | apply H.loop_ret | apply H.loop_exit)
        | (apply H.in_miss; exact rfl)
        | (apply H.gyes; (iterate 3 exact rfl); (first | assumption | omega))
        | (apply H.gno; (iterate 3 exact rfl); (first | assumption | omega))
        | (apply H.cond_yes; exact rfl; (first | assumption | omega))
        | (apply H.cond_no; exact rfl; (first | assumption | omega))
        | ((first | apply H.gtrue); (iterate 3 exact rfl); assumption)
        | (apply H.gfalse; (iterate 3 exact rfl); assumption)
        | (apply H.cond_t; exact rfl; assumption)
        | (apply H.cond_f; exact rfl; assumption))
      exact H.ret1 rfl rfl (fun _ h => h) ⟨rfl, rfl, rfl⟩
    · by_cases h2 : v < s.g
      · clear hno
        refine Fn.enter Try.func18 rfl Try.ntmps18 rfl (L := [(0, _), (1, _), (2, _)]) ⟨rfl, rfl, rfl, trivial⟩ fun base => ?_
        repeat (
          first
          | ((first | apply H.move | apply H.assign | apply H.nilCheck | apply H.len_slice); (iterate 3 exact rfl))
          | (apply H.fieldAddr; (iterate 3 exact rfl); exact inferInstance; exact rfl)
          | (apply H.load1; (iterate 3 exact rfl); apply Rd1.ofRow; (repeat (first | exact .here _ _ _ | apply At.there)); (iterate 2 exact rfl))
          | (first | apply H.seq | apply H.region | apply H.nil | apply H.then_normal)
          | ((first | apply H.cmp | apply H.build); (iterate 5 exact rfl))
          | ((first | (apply H.ar; (iterate 4 exact rfl)) | (apply H.conv_int; (iterate 2 exact rfl))); (first | (apply wr_i64_s1; omega) | (apply wr_i64_n1; omega) | (apply wr_i64_nn; omega) | (apply wr_i64; omega) | (apply wr_u64; omega) | (apply wr_u8; omega) | (apply wr_u16; omega) | rfl); exact rfl)
          | (apply H.pass; (iterate 2 exact rfl))
          | (apply H.pass0; exact rfl)
          | (apply H.pickT; (iterate 4 exact rfl))
          | ((first | apply H.pickF | apply H.extract | apply H.not); (iterate 4 exact rfl))
          | ((first | apply H.ptrNil | apply H.sliceNil); (iterate 5 exact rfl))
          | (apply H.store1; (iterate 4 exact rfl); (repeat (first | exact .here _ _ _ | apply At.there)); (repeat (first | exact .here _ _ _ | apply SetV.there)))
          | (apply H.cond_true; exact rfl)
          | (apply H.cond_false; exact rfl)
          | (first | apply H.skip | apply H.ret | apply H.then_ret | apply H.then_exit | apply H.exit | apply H.block | apply H.in_normal | apply H.in_ret | apply H.in_hit | apply H.loop_ret | apply H.loop_exit)
          | (apply H.in_miss; exact rfl)
          | (apply H.gyes; (iterate 3 exact rfl); (first | assumption | omega))
          | (apply H.gno; (iterate 3 exact rfl); (first | assumption | omega))
          | (apply H.cond_yes; exact rfl; (first | assumption | omega))
          | (apply H.cond_no; exact rfl; (first | assumption | omega))
          | ((first | apply H.gtrue); (iterate 3 exact rfl); assumption)
          | (apply H.gfalse; (iterate 3 exact rfl); assumption)
          | (apply H.cond_t; exact rfl; assumption)
          | (apply H.cond_f; exact rfl; assumption))
        refine H.call rfl rfl rfl (last_fn f F b s (by omega)) fun _ _ _ hR => ?_
        obtain ⟨rfl, rfl, rfl⟩ := hR
        repeat (
          first
          | ((first | apply H.move | apply H.assign | apply H.nilCheck | apply H.len_slice); (iterate 3 exact rfl))
          | (apply H.fieldAddr; (iterate 3 exact rfl); exact inferInstance; exact rfl)
          | (apply H.load1; (iterate 3 exact rfl); apply Rd1.ofRow; (repeat (first | exact .here _ _ _ | apply At.there)); (iterate 2 exact rfl))
          | (first | apply H.seq | apply H.region | apply H.nil | apply H.then_normal)
          | ((first | apply H.cmp | apply H.build); (iterate 5 exact rfl))
          | ((first | (apply H.ar; (iterate 4 exact rfl)) | (apply H.conv_int; (iterate 2 exact rfl))); (first | (apply wr_i64_s1; omega) | (apply wr_i64_n1; omega) | (apply wr_i64_nn; omega) | (apply wr_i64; omega) | (apply wr_u64; omega) | (apply wr_u8; omega) | (apply wr_u16; omega) | rfl); exact rfl)
          | (apply H.pass; (iterate 2 exact rfl))
          | (apply H.pass0; exact rfl)
          | (apply H.pickT; (iterate 4 exact rfl))
          | ((first | apply H.pickF | apply H.extract | apply H.not); (iterate 4 exact rfl))
          | ((first | apply H.ptrNil | apply H.sliceNil); (iterate 5 exact rfl))
          | (apply H.store1; (iterate 4 exact rfl); (repeat (first | exact .here _ _ _ | apply At.there)); (repeat (first | exact .here _ _ _ | apply SetV.there)))
          | (apply H.cond_true; exact rfl)
          | (apply H.cond_false; exact rfl)
          | (first | apply H.skip | apply H.ret | apply H.then_ret | apply H.then_exit | apply H.exit | apply H.block | apply H.in_normal | apply H.in_ret | apply H.in_hit | apply H.loop_ret | apply H.loop_exit)
          | (apply H.in_miss; exact rfl)
          | (apply H.gyes; (iterate 3 exact rfl); (first | assumption | omega))
          | (apply H.gno; (iterate 3 exact rfl); (first | assumption | omega))
          | (apply H.cond_yes; exact rfl; (first | assumption | omega))
          | (apply H.cond_no; exact rfl; (first | assumption | omega))
          | ((first | apply H.gtrue); (iterate 3 exact rfl); assumption)
          | (apply H.gfalse; (iterate 3 exact rfl); assumption)
          | (apply H.cond_t; exact rfl; assumption)
          | (apply H.cond_f; exact rfl; assumption))
        refine H.unfold (fun _ h => h) fun ⟨eb, ec, mb⟩ => ?_
        show H _ _ _ _ _ (row _ _ _ :: slc _ _ _ _ _ _ :: mp _ _ _ :: F) _
        repeat (
          first
          | ((first | apply H.move | apply H.assign | apply H.nilCheck | apply H.len_slice); (iterate 3 exact rfl))
          | (apply H.fieldAddr; (iterate 3 exact rfl); exact inferInstance; exact rfl)
          | (apply H.load1; (iterate 3 exact rfl); apply Rd1.ofRow; (repeat (first | exact .here _ _ _ | apply At.there)); (iterate 2 exact rfl))
          | (first | apply H.seq | apply H.region | apply H.nil | apply H.then_normal)
          | ((first | apply H.cmp | apply H.build); (iterate 5 exact rfl))
          | ((first | (apply H.ar; (iterate 4 exact rfl)) | (apply H.conv_int; (iterate 2 exact rfl))); (first | (apply wr_i64_s1; omega) | (apply wr_i64_n1; omega) | (apply wr_i64_nn; omega) | (apply wr_i64; omega) | (apply wr_u64; omega) | (apply wr_u8; omega) | (apply wr_u16; omega) | rfl); exact rfl)
          | (apply H.pass; (iterate 2 exact rfl))
          | (apply H.pass0; exact rfl)
          | (apply H.pickT; (iterate 4 exact rfl))
          | ((first | apply H.pickF | apply H.extract | apply H.not); (iterate 4 exact rfl))
          | ((first | apply H.ptrNil | apply H.sliceNil); (iterate 5 exact rfl))
          | (apply H.store1; (iterate 4 exact rfl); (repeat (first | exact .here _ _ _ | apply At.there)); (repeat (first | exact .here _ _ _ | apply SetV.there)))
          | (apply H.cond_true; exact rfl)
          | (apply H.cond_false; exact rfl)
          | (first | apply H.skip | apply H.ret | apply H.then_ret | apply H.then_exit | apply H.exit | apply H.block | apply H.in_normal | apply H.in_ret | apply H.in_hit | apply H.loop_ret | apply H.loop_exit)
          | (apply H.in_miss; exact rfl)
          | (apply H.gyes; (iterate 3 exact rfl); (first | assumption | omega))
          | (apply H.gno; (iterate 3 exact rfl); (first | assumption | omega))
          | (apply H.cond_yes; exact rfl; (first | assumption | omega))
          | (apply H.cond_no; exact rfl; (first | assumption | omega))
          | ((first | apply H.gtrue); (iterate 3 exact rfl); assumption)
          | (apply H.gfalse; (iterate 3 exact rfl); assumption)
          | (apply H.cond_t; exact rfl; assumption)
          | (apply H.cond_f; exact rfl; assumption))
        exact H.ret1 rfl rfl pastH_fold ⟨rfl, rfl, rfl⟩
      · by_cases h3 : 1073741824 ≤ v
        · clear hno
          refine Fn.enter Try.func18 rfl Try.ntmps18 rfl (L := [(0, _), (1, _), (2, _)]) ⟨rfl, rfl, rfl, trivial⟩ fun base => ?_
          repeat (
            first
            | ((first | apply H.move | apply H.assign | apply H.nilCheck | apply H.len_slice); (iterate 3 exact rfl))
            | (apply H.fieldAddr; (iterate 3 exact rfl); exact inferInstance; exact rfl)
            | (apply H.load1; (iterate 3 exact rfl); apply Rd1.ofRow; (repeat (first | exact .here _ _ _ | apply At.there)); (iterate 2 exact rfl))
            | (first | apply H.seq | apply H.region | apply H.nil | apply H.then_normal)
            | ((first | apply H.cmp | apply H.build); (iterate 5 exact rfl))
            | ((first | (apply H.ar; (iterate 4 exact rfl)) | (apply H.conv_int; (iterate 2 exact rfl))); (first | (apply wr_i64_s1; omega) | (apply wr_i64_n1; omega) | (apply wr_i64_nn; omega) | (apply wr_i64; omega) | (apply wr_u64; omega) | (apply wr_u8; omega) | (apply wr_u16; omega) | rfl); exact rfl)
            | (apply H.pass; (iterate 2 exact rfl))
            | (apply H.pass0; exact rfl)
            | (apply H.pickT; (iterate 4 exact rfl))
            | ((first | apply H.pickF | apply H.extract | apply H.not); (iterate 4 exact rfl))
            | ((first | apply H.ptrNil | apply H.sliceNil); (iterate 5 exact rfl))
            | (apply H.store1; (iterate 4 exact rfl); (repeat (first | exact .here _ _ _ | apply At.there)); (repeat (first | exact .here _ _ _ | apply SetV.there)))
            | (apply H.cond_true; exact rfl)
            | (apply H.cond_false; exact rfl)
            | (first | apply H.skip | apply H.ret | apply H.then_ret | apply H.then_exit | apply H.exit | apply H.block | apply H.in_normal | apply H.in_ret | apply H.in_hit | apply H.loop_ret | apply H.loop_exit)
            | (apply H.in_miss; exact rfl)
            | (apply H.gyes; (iterate 3 exact rfl); (first | assumption | omega))
            | (apply H.gno; (iterate 3 exact rfl); (first | assumption | omega))
            | (apply H.cond_yes; exact rfl; (first | assumption | omega))
            | (apply H.cond_no; exact rfl; (first | assumption | omega))
            | ((first | apply H.gtrue); (iterate 3 exact rfl); assumption)
            | (apply H.gfalse; (iterate 3 exact rfl); assumption)
            | (apply H.cond_t; exact rfl; assumption)
            | (apply H.cond_f; exact rfl; assumption))
          refine H.call rfl rfl rfl (last_fn f F b s (by omega)) fun _ _ _ hR => ?_
          obtain ⟨rfl, rfl, rfl⟩ := hR
          repeat (
            first
            | ((first | apply H.move | apply H.assign | apply H.nilCheck | apply H.len_slice); (iterate 3 exact rfl))
            | (apply H.fieldAddr; (iterate 3 exact rfl); exact inferInstance; exact rfl)
            | (apply H.load1; (iterate 3 exact rfl); apply Rd1.ofRow; (repeat (first | exact .here _ _ _ | apply At.there)); (iterate 2 exact rfl))
            | (first | apply H.seq | apply H.region | apply H.nil | apply H.then_normal)
            | ((first | apply H.cmp | apply H.build); (iterate 5 exact rfl))
            | ((first | (apply H.ar; (iterate 4 exact rfl)) | (apply H.conv_int; (iterate 2 exact rfl))); (first | (apply wr_i64_s1; omega) | (apply wr_i64_n1; omega) | (apply wr_i64_nn; omega) | (apply wr_i64; omega) | (apply wr_u64; omega) | (apply wr_u8; omega) | (apply wr_u16; omega) | rfl); exact rfl)
            | (apply H.pass; (iterate 2 exact rfl))
            | (apply H.pass0; exact rfl)
            | (apply H.pickT; (iterate 4 exact rfl))
            | ((first | apply H.pickF | apply H.extract | apply H.not); (iterate 4 exact rfl))
            | ((first | apply H.ptrNil | apply H.sliceNil); (iterate 5 exact rfl))
            | (apply H.store1; (iterate 4 exact rfl); (repeat (first | exact .here _ _ _ | apply At.there)); (repeat (first | exact .here _ _ _ | apply SetV.there)))
            | (apply H.cond_true; exact rfl)
            | (apply H.cond_false; exact rfl)
            | (first | apply H.skip | apply H.ret | apply H.then_ret | apply H.then_exit | apply H.exit | apply H.block | apply H.in_normal | apply H.in_ret | apply H.in_hit | apply H.loop_ret | apply H.loop_exit)
            | (apply H.in_miss; exact rfl)
            | (apply H.gyes; (iterate 3 exact rfl); (first | assumption | omega))
            | (apply H.gno; (iterate 3 exact rfl); (first | assumption | omega))
            | (apply H.cond_yes; exact rfl; (first | assumption | omega))
            | (apply H.cond_no; exact rfl; (first | assumption | omega))
            | ((first | apply H.gtrue); (iterate 3 exact rfl); assumption)
            | (apply H.gfalse; (iterate 3 exact rfl); assumption)
            | (apply H.cond_t; exact rfl; assumption)
            | (apply H.cond_f; exact rfl; assumption))
          refine H.unfold (fun _ h => h) fun ⟨eb, ec, mb⟩ => ?_
          show H _ _ _ _ _ (row _ _ _ :: slc _ _ _ _ _ _ :: mp _ _ _ :: F) _
          repeat (
            first
            | ((first | apply H.move | apply H.assign | apply H.nilCheck | apply H.len_slice); (iterate 3 exact rfl))
            | (apply H.fieldAddr; (iterate 3 exact rfl); exact inferInstance; exact rfl)
            | (apply H.load1; (iterate 3 exact rfl); apply Rd1.ofRow; (repeat (first | exact .here _ _ _ | apply At.there)); (iterate 2 exact rfl))
            | (first | apply H.seq | apply H.region | apply H.nil | apply H.then_normal)
            | ((first | apply H.cmp | apply H.build); (iterate 5 exact rfl))
            | ((first | (apply H.ar; (iterate 4 exact rfl)) | (apply H.conv_int; (iterate 2 exact rfl))); (first | (apply wr_i64_s1; omega) | (apply wr_i64_n1; omega) | (apply wr_i64_nn; omega) | (apply wr_i64; omega) | (apply wr_u64; omega) | (apply wr_u8; omega) | (apply wr_u16; omega) | rfl); exact rfl)
            | (apply H.pass; (iterate 2 exact rfl))
            | (apply H.pass0; exact rfl)
            | (apply H.pickT; (iterate 4 exact rfl))
            | ((first | apply H.pickF | apply H.extract | apply H.not); (iterate 4 exact rfl))
            | ((first | apply H.ptrNil | apply H.sliceNil); (iterate 5 exact rfl))
            | (apply H.store1; (iterate 4 exact rfl); (repeat (first | exact .here _ _ _ | apply At.there)); (repeat (first | exact .here _ _ _ | apply SetV.there)))
            | (apply H.cond_true; exact rfl)
            | (apply H.cond_false; exact rfl)
            | (first | apply H.skip | apply H.ret | apply H.then_ret | apply H.then_exit | apply H.exit | apply H.block | apply H.in_normal | apply H.in_ret | apply H.in_hit | apply H.loop_ret | apply H.loop_exit)
            | (apply H.in_miss; exact rfl)
            | (apply H.gyes; (iterate 3 exact rfl); (first | assumption | omega))
            | (apply H.gno; (iterate 3 exact rfl); (first | assumption | omega))
            | (apply H.cond_yes; exact rfl; (first | assumption | omega))
            | (apply H.cond_no; exact rfl; (first | assumption | omega))
            | ((first | apply H.gtrue); (iterate 3 exact rfl); assumption)
            | (apply H.gfalse; (iterate 3 exact rfl); assumption)
            | (apply H.cond_t; exact rfl; assumption)
            | (apply H.cond_f; exact rfl; assumption))
          exact H.ret1 rfl rfl pastH_fold ⟨rfl, rfl, rfl⟩
        · have h4 : k < 0 := by omega
          clear hno
          refine Fn.enter Try.func18 rfl Try.ntmps18 rfl (L := [(0, _), (1, _), (2, _)]) ⟨rfl, rfl, rfl, trivial⟩ fun base => ?_
          repeat (
            first
            | ((first | apply H.move | apply H.assign | apply H.nilCheck | apply H.len_slice); (iterate 3 exact rfl))
            | (apply H.fieldAddr; (iterate 3 exact rfl); exact inferInstance; exact rfl)
            | (apply H.load1; (iterate 3 exact rfl); apply Rd1.ofRow; (repeat (first | exact .here _ _ _ | apply At.there)); (iterate 2 exact rfl))
            | (first | apply H.seq | apply H.region | apply H.nil | apply H.then_normal)
            | ((first | apply H.cmp | apply H.build); (iterate 5 exact rfl))
            | ((first | (apply H.ar; (iterate 4 exact rfl)) | (apply H.conv_int; (iterate 2 exact rfl))); (first | (apply wr_i64_s1; omega) | (apply wr_i64_n1; omega) | (apply wr_i64_nn; omega) | (apply wr_i64; omega) | (apply wr_u64; omega) | (apply wr_u8; omega) | (apply wr_u16; omega) | rfl); exact rfl)
            | (apply H.pass; (iterate 2 exact rfl))
            | (apply H.pass0; exact rfl)
            | (apply H.pickT; (iterate 4 exact rfl))
            | ((first | apply H.pickF | apply H.extract | apply H.not); (iterate 4 exact rfl))
            | ((first | apply H.ptrNil | apply H.sliceNil); (iterate 5 exact rfl))
            | (apply H.store1; (iterate 4 exact rfl); (repeat (first | exact .here _ _ _ | apply At.there)); (repeat (first | exact .here _ _ _ | apply SetV.there)))
            | (apply H.cond_true; exact rfl)
            | (apply H.cond_false; exact rfl)
            | (first | apply H.skip | apply H.ret | apply H.then_ret | apply H.then_exit | apply H.exit | apply H.block | apply H.in_normal | apply H.in_ret | apply H.in_hit | apply H.loop_ret | apply H.loop_exit)
            | (apply H.in_miss; exact rfl)
            | (apply H.gyes; (iterate 3 exact rfl); (first | assumption | omega))
            | (apply H.gno; (iterate 3 exact rfl); (first | assumption | omega))
            | (apply H.cond_yes; exact rfl; (first | assumption | omega))
            | (apply H.cond_no; exact rfl; (first | assumption | omega))
            | ((first | apply H.gtrue); (iterate 3 exact rfl); assumption)
            | (apply H.gfalse; (iterate 3 exact rfl); assumption)
            | (apply H.cond_t; exact rfl; assumption)
            | (apply H.cond_f; exact rfl; assumption))
          refine H.call rfl rfl rfl (last_fn f F b s (by omega)) fun _ _ _ hR => ?_
          obtain ⟨rfl, rfl, rfl⟩ := hR
          repeat (
            first
            | ((first | apply H.move | apply H.assign | apply H.nilCheck | apply H.len_slice); (iterate 3 exact rfl))
            | (apply H.fieldAddr; (iterate 3 exact rfl); exact inferInstance; exact rfl)
            | (apply H.load1; (iterate 3 exact rfl); apply Rd1.ofRow; (repeat (first | exact .here _ _ _ | apply At.there)); (iterate 2 exact rfl))
            | (first | apply H.seq | apply H.region | apply H.nil | apply H.then_normal)
            | ((first | apply H.cmp | apply H.build); (iterate 5 exact rfl))
            | ((first | (apply H.ar; (iterate 4 exact rfl)) | (apply H.conv_int; (iterate 2 exact rfl))); (first | (apply wr_i64_s1; omega) | (apply wr_i64_n1; omega) | (apply wr_i64_nn; omega) | (apply wr_i64; omega) | (apply wr_u64; omega) | (apply wr_u8; omega) | (apply wr_u16; omega) | rfl); exact rfl)
            | (apply H.pass; (iterate 2 exact rfl))
            | (apply H.pass0; exact rfl)
            | (apply H.pickT; (iterate 4 exact rfl))
            | ((first | apply H.pickF | apply H.extract | apply H.not); (iterate 4 exact rfl))
            | ((first | apply H.ptrNil | apply H.sliceNil); (iterate 5 exact rfl))
            | (apply H.store1; (iterate 4 exact rfl); (repeat (first | exact .here _ _ _ | apply At.there)); (repeat (first | exact .here _ _ _ | apply SetV.there)))
            | (apply H.cond_true; exact rfl)
            | (apply H.cond_false; exact rfl)
            | (first | apply H.skip | apply H.ret | apply H.then_ret | apply H.then_exit | apply H.exit | apply H.block | apply H.in_normal | apply H.in_ret | apply H.in_hit | apply H.loop_ret | apply H.loop_exit)
            | (apply H.in_miss; exact rfl)
            | (apply H.gyes; (iterate 3 exact rfl); (first | assumption | omega))
            | (apply H.gno; (iterate 3 exact rfl); (first | assumption | omega))
            | (apply H.cond_yes; exact rfl; (first | assumption | omega))
            | (apply H.cond_no; exact rfl; (first | assumption | omega))
            | ((first | apply H.gtrue); (iterate 3 exact rfl); assumption)
            | (apply H.gfalse; (iterate 3 exact rfl); assumption)
            | (apply H.cond_t; exact rfl; assumption)
            | (apply H.cond_f; exact rfl; assumption))
          refine H.unfold (fun _ h => h) fun ⟨eb, ec, mb⟩ => ?_
          show H _ _ _ _ _ (row _ _ _ :: slc _ _ _ _ _ _ :: mp _ _ _ :: F) _
          repeat (
            first
            | ((first | apply H.move | apply H.assign | apply H.nilCheck | apply H.len_slice); (iterate 3 exact rfl))
            | (apply H.fieldAddr; (iterate 3 exact rfl); exact inferInstance; exact rfl)
            | (apply H.load1; (iterate 3 exact rfl); apply Rd1.ofRow; (repeat (first | exact .here _ _ _ | apply At.there)); (iterate 2 exact rfl))
            | (first | apply H.seq | apply H.region | apply H.nil | apply H.then_normal)
            | ((first | apply H.cmp | apply H.build); (iterate 5 exact rfl))
            | ((first | (apply H.ar; (iterate 4 exact rfl)) | (apply H.conv_int; (iterate 2 exact rfl))); (first | (apply wr_i64_s1; omega) | (apply wr_i64_n1; omega) | (apply wr_i64_nn; omega) | (apply wr_i64; omega) | (apply wr_u64; omega) | (apply wr_u8; omega) | (apply wr_u16; omega) | rfl); exact rfl)
            | (apply H.pass; (iterate 2 exact rfl))
            | (apply H.pass0; exact rfl)
            | (apply H.pickT; (iterate 4 exact rfl))
            | ((first | apply H.pickF | apply H.extract | apply H.not); (iterate 4 exact rfl))
            | ((first | apply H.ptrNil | apply H.sliceNil); (iterate 5 exact rfl))
            | (apply H.store1; (iterate 4 exact rfl); (repeat (first | exact .here _ _ _ | apply At.there)); (repeat (first | exact .here _ _ _ | apply SetV.there)))
            | (apply H.cond_true; exact rfl)
            | (apply H.cond_false; exact rfl)
            | (first | apply H.skip | apply H.ret | apply H.then_ret | apply H.then_exit | apply H.exit | apply H.block | apply H.in_normal | apply H.in_ret | apply H.in_hit | apply H.loop_ret | apply H.loop_exit)
            | (apply H.in_miss; exact rfl)
            | (apply H.gyes; (iterate 3 exact rfl); (first | assumption | omega))
            | (apply H.gno; (iterate 3 exact rfl); (first | assumption | omega))
            | (apply H.cond_yes; exact rfl; (first | assumption | omega))
            | (apply H.cond_no; exact rfl; (first | assumption | omega))
            | ((first | apply H.gtrue); (iterate 3 exact rfl); assumption)
            | (apply H.gfalse; (iterate 3 exact rfl); assumption)
            | (apply H.cond_t; exact rfl; assumption)
            | (apply H.cond_f; exact rfl; assumption))
          exact H.ret1 rfl rfl pastH_fold ⟨rfl, rfl, rfl⟩
  | true =>
    obtain ⟨h1, h2, h3, h4⟩ : s.lv < v ∧ s.g ≤ v ∧ v < 1073741824 ∧ 0 ≤ k := by simpa [PM.enterOk] using ho
    have e2 : s.enter v k = ⟨v, s.all, v, k⟩ := by simp [PM.enter, ho]
    rw [e2]
    have hput := hw.kv_enter2 (long := k) h1 ((getKV (PM.kv s.all) v).getD (.int .i64 0))
    refine Fn.enter Try.func18 rfl Try.ntmps18 rfl (L := [(0, _), (1, _), (2, _)]) ⟨rfl, rfl, rfl, trivial⟩ fun base => ?_
    repeat (
      first
      | ((first | apply H.move | apply H.assign | apply H.nilCheck | apply H.len_slice); (iterate 3 exact rfl))
      | (apply H.fieldAddr; (iterate 3 exact rfl); exact inferInstance; exact rfl)
      | (apply H.load1; (iterate 3 exact rfl); apply Rd1.ofRow; (repeat (first | exact .here _ _ _ | apply At.there)); (iterate 2 exact rfl))
      | (first | apply H.seq | apply H.region | apply H.nil | apply H.then_normal)
      | ((first | apply H.cmp | apply H.build); (iterate 5 exact rfl))
      | ((first | (apply H.ar; (iterate 4 exact rfl)) | (apply H.conv_int; (iterate 2 exact rfl))); (first | (apply wr_i64_s1; omega) | (apply wr_i64_n1; omega) | (apply wr_i64_nn; omega) | (apply wr_i64; omega) | (apply wr_u64; omega) | (apply wr_u8; omega) | (apply wr_u16; omega) | rfl); exact rfl)
      | (apply H.pass; (iterate 2 exact rfl))
      | (apply H.pass0; exact rfl)
      | (apply H.pickT; (iterate 4 exact rfl))
      | ((first | apply H.pickF | apply H.extract | apply H.not); (iterate 4 exact rfl))
      | ((first | apply H.ptrNil | apply H.sliceNil); (iterate 5 exact rfl))
      | (apply H.store1; (iterate 4 exact rfl); (repeat (first | exact .here _ _ _ | apply At.there)); (repeat (first | exact .here _ _ _ | apply SetV.there)))
      | (apply H.cond_true; exact rfl)
      | (apply H.cond_false; exact rfl)
      | (first | apply H.skip | apply H.ret | apply H.then_ret | apply H.then_exit | apply H.exit | apply H.block | apply H.in_normal | apply H.in_ret | apply H.in_hit | apply H.loop_ret | apply H.loop_exit)
      | (apply H.in_miss; exact rfl)
      | (apply H.gyes; (iterate 3 exact rfl); (first | assumption | omega))
      | (apply H.gno; (iterate 3 exact rfl); (first | assumption | omega))
      | (apply H.cond_yes; exact rfl; (first | assumption | omega))
      | (apply H.cond_no; exact rfl; (first | assumption | omega))
      | ((first | apply H.gtrue); (iterate 3 exact rfl); assumption)
      | (apply H.gfalse; (iterate 3 exact rfl); assumption)
      | (apply H.cond_t; exact rfl; assumption)
      | (apply H.cond_f; exact rfl; assumption))
    refine H.call rfl rfl rfl (last_fn f F b s (by omega)) fun _ _ _ hR => ?_
    obtain ⟨rfl, rfl, rfl⟩ := hR
    repeat (
      first
      | ((first | apply H.move | apply H.assign | apply H.nilCheck | apply H.len_slice); (iterate 3 exact rfl))
      | (apply H.fieldAddr; (iterate 3 exact rfl); exact inferInstance; exact rfl)
      | (apply H.load1; (iterate 3 exact rfl); apply Rd1.ofRow; (repeat (first | exact .here _ _ _ | apply At.there)); (iterate 2 exact rfl))
      | (first | apply H.seq | apply H.region | apply H.nil | apply H.then_normal)
      | ((first | apply H.cmp | apply H.build); (iterate 5 exact rfl))
      | ((first | (apply H.ar; (iterate 4 exact rfl)) | (apply H.conv_int; (iterate 2 exact rfl))); (first | (apply wr_i64_s1; omega) | (apply wr_i64_n1; omega) | (apply wr_i64_nn; omega) | (apply wr_i64; omega) | (apply wr_u64; omega) | (apply wr_u8; omega) | (apply wr_u16; omega) | rfl); exact rfl)
      | (apply H.pass; (iterate 2 exact rfl))
      | (apply H.pass0; exact rfl)
      | (apply H.pickT; (iterate 4 exact rfl))
      | ((first | apply H.pickF | apply H.extract | apply H.not); (iterate 4 exact rfl))
      | ((first | apply H.ptrNil | apply H.sliceNil); (iterate 5 exact rfl))
      | (apply H.store1; (iterate 4 exact rfl); (repeat (first | exact .here _ _ _ | apply At.there)); (repeat (first | exact .here _ _ _ | apply SetV.there)))
      | (apply H.cond_true; exact rfl)
      | (apply H.cond_false; exact rfl)
      | (first | apply H.skip | apply H.ret | apply H.then_ret | apply H.then_exit | apply H.exit | apply H.block | apply H.in_normal | apply H.in_ret | apply H.in_hit | apply H.loop_ret | apply H.loop_exit)
      | (apply H.in_miss; exact rfl)
      | (apply H.gyes; (iterate 3 exact rfl); (first | assumption | omega))
      | (apply H.gno; (iterate 3 exact rfl); (first | assumption | omega))
      | (apply H.cond_yes; exact rfl; (first | assumption | omega))
      | (apply H.cond_no; exact rfl; (first | assumption | omega))
      | ((first | apply H.gtrue); (iterate 3 exact rfl); assumption)
      | (apply H.gfalse; (iterate 3 exact rfl); assumption)
      | (apply H.cond_t; exact rfl; assumption)
      | (apply H.cond_f; exact rfl; assumption))
    refine H.unfold (fun _ h => h) fun ⟨eb, ec, mb⟩ => ?_
    show H _ _ _ _ _ (row _ _ _ :: slc _ _ _ _ _ _ :: mp _ _ _ :: F) _
    repeat (
      first
      | ((first | apply H.move | apply H.assign | apply H.nilCheck | apply H.len_slice); (iterate 3 exact rfl))
      | (apply H.fieldAddr; (iterate 3 exact rfl); exact inferInstance; exact rfl)
      | (apply H.load1; (iterate 3 exact rfl); apply Rd1.ofRow; (repeat (first | exact .here _ _ _ | apply At.there)); (iterate 2 exact rfl))
      | (first | apply H.seq | apply H.region | apply H.nil | apply H.then_normal)
      | ((first | apply H.cmp | apply H.build); (iterate 5 exact rfl))
      | ((first | (apply H.ar; (iterate 4 exact rfl)) | (apply H.conv_int; (iterate 2 exact rfl))); (first | (apply wr_i64_s1; omega) | (apply wr_i64_n1; omega) | (apply wr_i64_nn; omega) | (apply wr_i64; omega) | (apply wr_u64; omega) | (apply wr_u8; omega) | (apply wr_u16; omega) | rfl); exact rfl)
      | (apply H.pass; (iterate 2 exact rfl))
      | (apply H.pass0; exact rfl)
      | (apply H.pickT; (iterate 4 exact rfl))
      | ((first | apply H.pickF | apply H.extract | apply H.not); (iterate 4 exact rfl))
      | ((first | apply H.ptrNil | apply H.sliceNil); (iterate 5 exact rfl))
      | (apply H.store1; (iterate 4 exact rfl); (repeat (first | exact .here _ _ _ | apply At.there)); (repeat (first | exact .here _ _ _ | apply SetV.there)))
      | (apply H.cond_true; exact rfl)
      | (apply H.cond_false; exact rfl)
      | (first | apply H.skip | apply H.ret | apply H.then_ret | apply H.then_exit | apply H.exit | apply H.block | apply H.in_normal | apply H.in_ret | apply H.in_hit | apply H.loop_ret | apply H.loop_exit)
      | (apply H.in_miss; exact rfl)
      | (apply H.gyes; (iterate 3 exact rfl); (first | assumption | omega))
      | (apply H.gno; (iterate 3 exact rfl); (first | assumption | omega))
      | (apply H.cond_yes; exact rfl; (first | assumption | omega))
      | (apply H.cond_no; exact rfl; (first | assumption | omega))
      | ((first | apply H.gtrue); (iterate 3 exact rfl); assumption)
      | (apply H.gfalse; (iterate 3 exact rfl); assumption)
      | (apply H.cond_t; exact rfl; assumption)
      | (apply H.cond_f; exact rfl; assumption))
    refine H.buildSlice rfl rfl rfl rfl (by decide) (by decide) rfl rfl fun tb => ?_
    refine H.append (m := 1) rfl rfl rfl rfl rfl (fun p' c' => (by repeat (first | exact .here _ _ _ | apply At.there))) (Src.slice (Rd.ofRow (by repeat (first | exact .here _ _ _ | apply At.there))) rfl) (allOne_mem rfl) rfl (by omega) (by omega) fun p' c' => ?_
    refine H.slc_some (by repeat (first | exact .here _ _ _ | apply At.there)) (by omega) fun eb' hp => ?_
    subst hp
    repeat (
      first
      | ((first | apply H.move | apply H.assign | apply H.nilCheck | apply H.len_slice); (iterate 3 exact rfl))
      | (apply H.fieldAddr; (iterate 3 exact rfl); exact inferInstance; exact rfl)
      | (apply H.load1; (iterate 3 exact rfl); apply Rd1.ofRow; (repeat (first | exact .here _ _ _ | apply At.there)); (iterate 2 exact rfl))
      | (first | apply H.seq | apply H.region | apply H.nil | apply H.then_normal)
      | ((first | apply H.cmp | apply H.build); (iterate 5 exact rfl))
      | ((first | (apply H.ar; (iterate 4 exact rfl)) | (apply H.conv_int; (iterate 2 exact rfl))); (first | (apply wr_i64_s1; omega) | (apply wr_i64_n1; omega) | (apply wr_i64_nn; omega) | (apply wr_i64; omega) | (apply wr_u64; omega) | (apply wr_u8; omega) | (apply wr_u16; omega) | rfl); exact rfl)
      | (apply H.pass; (iterate 2 exact rfl))
      | (apply H.pass0; exact rfl)
      | (apply H.pickT; (iterate 4 exact rfl))
      | ((first | apply H.pickF | apply H.extract | apply H.not); (iterate 4 exact rfl))
      | ((first | apply H.ptrNil | apply H.sliceNil); (iterate 5 exact rfl))
      | (apply H.store1; (iterate 4 exact rfl); (repeat (first | exact .here _ _ _ | apply At.there)); (repeat (first | exact .here _ _ _ | apply SetV.there)))
      | (apply H.cond_true; exact rfl)
      | (apply H.cond_false; exact rfl)
      | (first | apply H.skip | apply H.ret | apply H.then_ret | apply H.then_exit | apply H.exit | apply H.block | apply H.in_normal | apply H.in_ret | apply H.in_hit | apply H.loop_ret | apply H.loop_exit)
      | (apply H.in_miss; exact rfl)
      | (apply H.gyes; (iterate 3 exact rfl); (first | assumption | omega))
      | (apply H.gno; (iterate 3 exact rfl); (first | assumption | omega))
      | (apply H.cond_yes; exact rfl; (first | assumption | omega))
      | (apply H.cond_no; exact rfl; (first | assumption | omega))
      | ((first | apply H.gtrue); (iterate 3 exact rfl); assumption)
      | (apply H.gfalse; (iterate 3 exact rfl); assumption)
      | (apply H.cond_t; exact rfl; assumption)
      | (apply H.cond_f; exact rfl; assumption))
    refine H.mapEntry rfl rfl rfl (fun st => (by repeat (first | exact .here _ _ _ | apply At.there))) rfl rfl fun st => ?_
    repeat (
      first
      | ((first | apply H.move | apply H.assign | apply H.nilCheck | apply H.len_slice); (iterate 3 exact rfl))
      | (apply H.fieldAddr; (iterate 3 exact rfl); exact inferInstance; exact rfl)
      | (apply H.load1; (iterate 3 exact rfl); apply Rd1.ofRow; (repeat (first | exact .here _ _ _ | apply At.there)); (iterate 2 exact rfl))
      | (first | apply H.seq | apply H.region | apply H.nil | apply H.then_normal)
      | ((first | apply H.cmp | apply H.build); (iterate 5 exact rfl))
      | ((first | (apply H.ar; (iterate 4 exact rfl)) | (apply H.conv_int; (iterate 2 exact rfl))); (first | (apply wr_i64_s1; omega) | (apply wr_i64_n1; omega) | (apply wr_i64_nn; omega) | (apply wr_i64; omega) | (apply wr_u64; omega) | (apply wr_u8; omega) | (apply wr_u16; omega) | rfl); exact rfl)
      | (apply H.pass; (iterate 2 exact rfl))
      | (apply H.pass0; exact rfl)
      | (apply H.pickT; (iterate 4 exact rfl))
      | ((first | apply H.pickF | apply H.extract | apply H.not); (iterate 4 exact rfl))
      | ((first | apply H.ptrNil | apply H.sliceNil); (iterate 5 exact rfl))
      | (apply H.store1; (iterate 4 exact rfl); (repeat (first | exact .here _ _ _ | apply At.there)); (repeat (first | exact .here _ _ _ | apply SetV.there)))
      | (apply H.cond_true; exact rfl)
      | (apply H.cond_false; exact rfl)
      | (first | apply H.skip | apply H.ret | apply H.then_ret | apply H.then_exit | apply H.exit | apply H.block | apply H.in_normal | apply H.in_ret | apply H.in_hit | apply H.loop_ret | apply H.loop_exit)
      | (apply H.in_miss; exact rfl)
      | (apply H.gyes; (iterate 3 exact rfl); (first | assumption | omega))
      | (apply H.gno; (iterate 3 exact rfl); (first | assumption | omega))
      | (apply H.cond_yes; exact rfl; (first | assumption | omega))
      | (apply H.cond_no; exact rfl; (first | assumption | omega))
      | ((first | apply H.gtrue); (iterate 3 exact rfl); assumption)
      | (apply H.gfalse; (iterate 3 exact rfl); assumption)
      | (apply H.cond_t; exact rfl; assumption)
      | (apply H.cond_f; exact rfl; assumption))
    refine H.entryStore rfl rfl rfl rfl (by repeat (first | exact .here _ _ _ | apply At.there)) ?_
    rw [hput]
    repeat (
      first
      | ((first | apply H.move | apply H.assign | apply H.nilCheck | apply H.len_slice); (iterate 3 exact rfl))
      | (apply H.fieldAddr; (iterate 3 exact rfl); exact inferInstance; exact rfl)
      | (apply H.load1; (iterate 3 exact rfl); apply Rd1.ofRow; (repeat (first | exact .here _ _ _ | apply At.there)); (iterate 2 exact rfl))
      | (first | apply H.seq | apply H.region | apply H.nil | apply H.then_normal)
      | ((first | apply H.cmp | apply H.build); (iterate 5 exact rfl))
      | ((first | (apply H.ar; (iterate 4 exact rfl)) | (apply H.conv_int; (iterate 2 exact rfl))); (first | (apply wr_i64_s1; omega) | (apply wr_i64_n1; omega) | (apply wr_i64_nn; omega) | (apply wr_i64; omega) | (apply wr_u64; omega) | (apply wr_u8; omega) | (apply wr_u16; omega) | rfl); exact rfl)
      | (apply H.pass; (iterate 2 exact rfl))
      | (apply H.pass0; exact rfl)
      | (apply H.pickT; (iterate 4 exact rfl))
      | ((first | apply H.pickF | apply H.extract | apply H.not); (iterate 4 exact rfl))
      | ((first | apply H.ptrNil | apply H.sliceNil); (iterate 5 exact rfl))
      | (apply H.store1; (iterate 4 exact rfl); (repeat (first | exact .here _ _ _ | apply At.there)); (repeat (first | exact .here _ _ _ | apply SetV.there)))
      | (apply H.cond_true; exact rfl)
      | (apply H.cond_false; exact rfl)
      | (first | apply H.skip | apply H.ret | apply H.then_ret | apply H.then_exit | apply H.exit | apply H.block | apply H.in_normal | apply H.in_ret | apply H.in_hit | apply H.loop_ret | apply H.loop_exit)
      | (apply H.in_miss; exact rfl)
      | (apply H.gyes; (iterate 3 exact rfl); (first | assumption | omega))
      | (apply H.gno; (iterate 3 exact rfl); (first | assumption | omega))
      | (apply H.cond_yes; exact rfl; (first | assumption | omega))
      | (apply H.cond_no; exact rfl; (first | assumption | omega))
      | ((first | apply H.gtrue); (iterate 3 exact rfl); assumption)
      | (apply H.gfalse; (iterate 3 exact rfl); assumption)
      | (apply H.cond_t; exact rfl; assumption)
      | (apply H.cond_f; exact rfl; assumption))
    refine H.drop (.here _ _) ?_
    have hf := pastH_fold (b := b) (eb := eb') (ec := c') (mb := mb) (s := ⟨v, s.all, v, k⟩) (F := F)
    have hvw : viewsV (⟨v, s.all, v, k⟩ : PM).all = viewsV s.all ++ [.int .u64 v] := by simp [viewsV, PM.all]
    have hlen : (⟨v, s.all, v, k⟩ : PM).init.length = s.init.length + 1 := by simp [PM.all]
    rw [hvw, hlen] at hf
    exact H.ret1 rfl rfl hf ⟨rfl, rfl, rfl⟩
end
end Go.Proofs.Ytfplfddobjbbnaa
