/- Layer 14, the document's answer: what each call does to its past. -/
import Derived.Test.YtfplfddobjbbnaaPb
namespace Go.Proofs.Ytfplfddobjbbnaa
set_option linter.unusedSectionVars false
set_option linter.unusedSimpArgs false
set_option linter.unusedVariables false
open Go

def flatV {α : Type} (g : α → List Value) (l : List α) : List Value := (l.map g).flatten
theorem flatV_length {α : Type} {g : α → List Value} {sz : Nat} (hg : ∀ x, (g x).length = sz) (l : List α) : (flatV g l).length = l.length * sz := by
  induction l with
  | nil => simp [flatV]
  | cons x r ih => simp only [flatV, List.map_cons, List.flatten_cons, List.length_append, hg, List.length_cons] at ih ⊢; rw [ih, Nat.add_mul]; omega
theorem flatV_get {α : Type} {g : α → List Value} {sz : Nat} (hg : ∀ x, (g x).length = sz) : ∀ (l : List α) (i j : Nat) (x : α), l[i]? = some x → j < sz → (flatV g l)[i * sz + j]? = (g x)[j]?
  | [], i, j, x, h, _ => by simp at h
  | y :: r, 0, j, x, h, hj => by
    simp at h; subst h
    simp only [flatV, List.map_cons, List.flatten_cons, Nat.zero_mul, Nat.zero_add]
    exact List.getElem?_append_left (by rw [hg]; exact hj)
  | y :: r, i + 1, j, x, h, hj => by
    have ih := flatV_get hg r i j x (by simpa using h) hj
    simp only [flatV, List.map_cons, List.flatten_cons] at ih ⊢
    rw [List.getElem?_append_right (by rw [hg, Nat.add_mul]; omega), hg, ← ih]
    congr 1
    rw [Nat.add_mul]; omega
theorem flatV_append {α : Type} (g : α → List Value) (l r : List α) : flatV g (l ++ r) = flatV g l ++ flatV g r := by simp [flatV]

def voteV (p : Int × Int) : List Value := [.int .u64 p.1, .int .i64 p.2]
theorem voteV_len (p : Int × Int) : (voteV p).length = 2 := rfl

def refL (b eb ec : Nat) (s : PM) : List HP := [row b 36 [.int .u64 s.g, .slice (some ⟨eb, 0, none⟩) (s.init.length + 1) ec],
  slc (some ⟨eb, 0, none⟩) (s.init.length + 1) ec 42 2 (flatV voteV s.all)]
/-- Block b is the document's past that stands at s. -/
def refH (b : Nat) (s : PM) : HP := fun h => ∃ i : Nat × Nat, stars (refL b i.1 i.2 s) h

theorem refH_fold {b eb ec : Nat} {s : PM} {F : List HP} : ∀ x, stars (row b 36 [.int .u64 s.g, .slice (some ⟨eb, 0, none⟩) (s.init.length + 1) ec] ::
  slc (some ⟨eb, 0, none⟩) (s.init.length + 1) ec 42 2 (flatV voteV s.all) :: F) x → stars (refH b s :: F) x :=
  fold_stars (B := [_, _]) fun x hx => ⟨(eb, ec), hx⟩
theorem refH_open {fid : FuncId} {args : List Value} {f : Frag} {R : Value → Frag → List HP → Prop} {b : Nat} {s : PM} {F : List HP}
    (k : ∀ eb ec, Fn Try.prog fid args f (row b 36 [.int .u64 s.g, .slice (some ⟨eb, 0, none⟩) (s.init.length + 1) ec] ::
      slc (some ⟨eb, 0, none⟩) (s.init.length + 1) ec 42 2 (flatV voteV s.all) :: F) R) : Fn Try.prog fid args f (refH b s :: F) R :=
  Fn.unfold (fun _ h => h) fun ⟨eb, ec⟩ => k eb ec
theorem refH_openH {base : World} {n : Nat} {L : Env} {K : Kont} {f : Frag} {b : Nat} {s : PM} {F : List HP}
    (k : ∀ eb ec, H Try.prog base n L f (row b 36 [.int .u64 s.g, .slice (some ⟨eb, 0, none⟩) (s.init.length + 1) ec] ::
      slc (some ⟨eb, 0, none⟩) (s.init.length + 1) ec 42 2 (flatV voteV s.all) :: F) K) : H Try.prog base n L f (refH b s :: F) K :=
  H.unfold (fun _ h => h) fun ⟨eb, ec⟩ => k eb ec
theorem pastH_openH {base : World} {n : Nat} {L : Env} {K : Kont} {f : Frag} {b : Nat} {s : PM} {F : List HP}
    (k : ∀ eb ec mb, H Try.prog base n L f (row b 52 [.int .u64 s.g, .slice (some ⟨eb, 0, none⟩) (s.init.length + 1) ec, .map (some mb)] ::
      slc (some ⟨eb, 0, none⟩) (s.init.length + 1) ec 23 1 (viewsV s.all) :: mp mb keyU (PM.kv s.all) :: F) K) : H Try.prog base n L f (pastH b s :: F) K :=
  H.unfold (fun _ h => h) fun ⟨eb, ec, mb⟩ => k eb ec mb

theorem all_last (s : PM) : s.all[s.init.length]? = some (s.lv, s.ln) := by simp [PM.all]
theorem votes_lv (s : PM) : (flatV voteV s.all)[s.init.length * 2 + 0]? = some (.int .u64 s.lv) := by rw [flatV_get voteV_len _ _ _ _ (all_last s) (by decide)]; rfl
theorem votes_ln (s : PM) : (flatV voteV s.all)[s.init.length * 2 + 1]? = some (.int .i64 s.ln) := by rw [flatV_get voteV_len _ _ _ _ (all_last s) (by decide)]; rfl
theorem all_len (s : PM) : s.all.length = s.init.length + 1 := by simp [PM.all]

section
variable (f : Frag) (F : List HP) (b : Nat) (s : PM)

theorem Fn.reopen {fid : FuncId} {args : List Value} {v : Value} (h : ∀ eb ec, Fn Try.prog fid args f (refL b eb ec s ++ F) (Ret v f (refL b eb ec s ++ F))) : Fn Try.prog fid args f (refH b s :: F) (Ret v f (refH b s :: F)) := by
  refine Fn.unfold (fun _ h => h) fun ⟨eb, ec⟩ => ?_
  intro base w hs
  refine (h eb ec base w hs).mono ?_
  rintro e w' ⟨u, f', A', he, ⟨rfl, rfl, rfl⟩, s'⟩
  exact ⟨_, _, _, he, ⟨rfl, rfl, rfl⟩, s'.imp refH_fold⟩
theorem rlast_o (eb ec : Nat) (hn : s.init.length ≤ 1000000) : Fn Try.prog 27 [.pointer (some ⟨b, 0, none⟩)] f (refL b eb ec s ++ F) (Ret (.int .u64 s.lv) f (refL b eb ec s ++ F)) := by
  show Fn _ _ _ f (row _ _ _ :: slc _ _ _ _ _ _ :: F) _
  refine Fn.enter Try.func27 rfl Try.ntmps27 rfl (L := [(0, _)]) ⟨rfl, trivial⟩ fun base => ?_
  repeat (
    first
    | ((first | apply H.move | apply H.assign | apply H.nilCheck | apply H.len_slice); (iterate 3 exact rfl))
    | (apply H.fieldAddr; (iterate 3 exact rfl); exact inferInstance; exact rfl)
    | (apply H.load1; (iterate 3 exact rfl); apply Rd1.ofRow; (repeat (first | exact .here _ _ _ | apply At.there)); (iterate 2 exact rfl))
    | (first | apply H.seq | apply H.region | apply H.nil | apply H.then_normal)
    | ((first | apply H.cmp | apply H.build); (iterate 5 exact rfl))
    | ((first | (apply H.ar; (iterate 4 exact rfl)) | (apply H.conv_int; (iterate 2 exact rfl))); (first | (apply wr_i64_s1; omega) | (apply wr_i64_n1; omega) | (apply wr_i64_nn; omega) | (apply wr_i64; omega) | (apply wr_u64; omega) | (apply wr_u8; omega) | (apply wr_u16; omega) | rfl); exact rfl)
    | (apply H.pass; (iterate 2 exact rfl))
    | (apply H.pass0; exact rfl)
    | (apply H.pickT; (iterate 4 exact rfl))
    | ((first | apply H.pickF | apply H.extract | apply H.not); (iterate 4 exact rfl))
    | ((first | apply H.ptrNil | apply H.sliceNil); (iterate 5 exact rfl))
    | (apply H.store1; (iterate 4 exact rfl); (repeat (first | exact .here _ _ _ | apply At.there)); (repeat (first | exact .here _ _ _ | apply SetV.there)))
    | (apply H.cond_true; exact rfl)
    | (apply H.cond_false; exact rfl)
    | (first | apply H.skip | apply H.ret | apply H.then_ret | apply H.then_exit | apply H.exit | apply H.block | apply H.in_normal | apply H.in_ret | apply H.in_hit | apply H.loop_ret | apply H.loop_exit)
    | (apply H.in_miss; exact rfl)
    | (apply H.gyes; (iterate 3 exact rfl); (first | assumption | omega))
    | (apply H.gno; (iterate 3 exact rfl); (first | assumption | omega))
    | (apply H.cond_yes; exact rfl; (first | assumption | omega))
    | (apply H.cond_no; exact rfl; (first | assumption | omega))
    | ((first | apply H.gtrue); (iterate 3 exact rfl); assumption)
    | (apply H.gfalse; (iterate 3 exact rfl); assumption)
    | (apply H.cond_t; exact rfl; assumption)
    | (apply H.cond_f; exact rfl; assumption))
  refine H.drawQ (by kernel_rfl) (by decide +kernel) (by first | exact blind_fn | exact blind_seq blind_fn | exact blind_seq (blind_seq blind_fn) | (repeat (first | exact blind_fn | refine blind_seq ?_ | refine blind_block ?_ | refine blind_loop ?_))) ?_
  repeat (
    first
    | ((first | apply HQ.move | apply HQ.assign | apply HQ.nilCheck | apply HQ.len_slice); (iterate 3 exact rfl))
    | (apply HQ.fieldAddr; (iterate 3 exact rfl); exact inferInstance; exact rfl)
    | (apply HQ.load1; (iterate 3 exact rfl); apply Rd1.ofRow; (repeat (first | exact .here _ _ _ | apply At.there)); (iterate 2 exact rfl))
    | ((first | apply HQ.done0 | apply HQ.done); exact rfl)
    | ((first | apply HQ.cmp | apply HQ.build); (iterate 5 exact rfl))
    | ((first | (apply HQ.ar; (iterate 4 exact rfl)) | (apply HQ.conv_int; (iterate 2 exact rfl))); (first | (apply wr_i64_s1; omega) | (apply wr_i64_n1; omega) | (apply wr_i64_nn; omega) | (apply wr_i64; omega) | (apply wr_u64; omega) | (apply wr_u8; omega) | (apply wr_u16; omega) | rfl); exact rfl)
    | (apply HQ.pass; (iterate 2 exact rfl))
    | (apply HQ.pickT; (iterate 4 exact rfl))
    | ((first | apply HQ.pickF | apply HQ.extract | apply HQ.not); (iterate 4 exact rfl))
    | ((first | apply HQ.ptrNil | apply HQ.sliceNil); (iterate 5 exact rfl))
    | (apply HQ.gyes; (iterate 3 exact rfl); (first | assumption | omega))
    | (apply HQ.gno; (iterate 3 exact rfl); (first | assumption | omega))
    | (apply HQ.gtrue; (iterate 3 exact rfl); assumption)
    | (apply HQ.gfalse; (iterate 3 exact rfl); assumption))
  refine HQ.index0 rfl rfl rfl rfl (by omega) rfl ?_
  repeat (
    first
    | ((first | apply HQ.move | apply HQ.assign | apply HQ.nilCheck | apply HQ.len_slice); (iterate 3 exact rfl))
    | (apply HQ.fieldAddr; (iterate 3 exact rfl); exact inferInstance; exact rfl)
    | (apply HQ.load1; (iterate 3 exact rfl); apply Rd1.ofRow; (repeat (first | exact .here _ _ _ | apply At.there)); (iterate 2 exact rfl))
    | ((first | apply HQ.done0 | apply HQ.done); exact rfl)
    | ((first | apply HQ.cmp | apply HQ.build); (iterate 5 exact rfl))
    | ((first | (apply HQ.ar; (iterate 4 exact rfl)) | (apply HQ.conv_int; (iterate 2 exact rfl))); (first | (apply wr_i64_s1; omega) | (apply wr_i64_n1; omega) | (apply wr_i64_nn; omega) | (apply wr_i64; omega) | (apply wr_u64; omega) | (apply wr_u8; omega) | (apply wr_u16; omega) | rfl); exact rfl)
    | (apply HQ.pass; (iterate 2 exact rfl))
    | (apply HQ.pickT; (iterate 4 exact rfl))
    | ((first | apply HQ.pickF | apply HQ.extract | apply HQ.not); (iterate 4 exact rfl))
    | ((first | apply HQ.ptrNil | apply HQ.sliceNil); (iterate 5 exact rfl))
    | (apply HQ.gyes; (iterate 3 exact rfl); (first | assumption | omega))
    | (apply HQ.gno; (iterate 3 exact rfl); (first | assumption | omega))
    | (apply HQ.gtrue; (iterate 3 exact rfl); assumption)
    | (apply HQ.gfalse; (iterate 3 exact rfl); assumption))
  refine HQ.load1 rfl rfl rfl (.at0 (Rd.ofSlc (by repeat (first | exact .here _ _ _ | apply At.there)) (by omega)) (votes_lv s)) rfl ?_
  repeat (
    first
    | ((first | apply HQ.move | apply HQ.assign | apply HQ.nilCheck | apply HQ.len_slice); (iterate 3 exact rfl))
    | (apply HQ.fieldAddr; (iterate 3 exact rfl); exact inferInstance; exact rfl)
    | (apply HQ.load1; (iterate 3 exact rfl); apply Rd1.ofRow; (repeat (first | exact .here _ _ _ | apply At.there)); (iterate 2 exact rfl))
    | ((first | apply HQ.done0 | apply HQ.done); exact rfl)
    | ((first | apply HQ.cmp | apply HQ.build); (iterate 5 exact rfl))
    | ((first | (apply HQ.ar; (iterate 4 exact rfl)) | (apply HQ.conv_int; (iterate 2 exact rfl))); (first | (apply wr_i64_s1; omega) | (apply wr_i64_n1; omega) | (apply wr_i64_nn; omega) | (apply wr_i64; omega) | (apply wr_u64; omega) | (apply wr_u8; omega) | (apply wr_u16; omega) | rfl); exact rfl)
    | (apply HQ.pass; (iterate 2 exact rfl))
    | (apply HQ.pickT; (iterate 4 exact rfl))
    | ((first | apply HQ.pickF | apply HQ.extract | apply HQ.not); (iterate 4 exact rfl))
    | ((first | apply HQ.ptrNil | apply HQ.sliceNil); (iterate 5 exact rfl))
    | (apply HQ.gyes; (iterate 3 exact rfl); (first | assumption | omega))
    | (apply HQ.gno; (iterate 3 exact rfl); (first | assumption | omega))
    | (apply HQ.gtrue; (iterate 3 exact rfl); assumption)
    | (apply HQ.gfalse; (iterate 3 exact rfl); assumption))
  repeat (
    first
    | ((first | apply H.move | apply H.assign | apply H.nilCheck | apply H.len_slice); (iterate 3 exact rfl))
    | (apply H.fieldAddr; (iterate 3 exact rfl); exact inferInstance; exact rfl)
    | (apply H.load1; (iterate 3 exact rfl); apply Rd1.ofRow; (repeat (first | exact .here _ _ _ | apply At.there)); (iterate 2 exact rfl))
    | (first | apply H.seq | apply H.region | apply H.nil | apply H.then_normal)
    | ((first | apply H.cmp | apply H.build); (iterate 5 exact rfl))
    | ((first | (apply H.ar; (iterate 4 exact rfl)) | (apply H.conv_int; (iterate 2 exact rfl))); (first | (apply wr_i64_s1; omega) | (apply wr_i64_n1; omega) | (apply wr_i64_nn; omega) | (apply wr_i64; omega) | (apply wr_u64; omega) | (apply wr_u8; omega) | (apply wr_u16; omega) | rfl); exact rfl)
    | (apply H.pass; (iterate 2 exact rfl))
    | (apply H.pass0; exact rfl)
    | (apply H.pickT; (iterate 4 exact rfl))
    | ((first | apply H.pickF | apply H.extract | apply H.not); (iterate 4 exact rfl))
    | ((first | apply H.ptrNil | apply H.sliceNil); (iterate 5 exact rfl))
    | (apply H.store1; (iterate 4 exact rfl); (repeat (first | exact .here _ _ _ | apply At.there)); (repeat (first | exact .here _ _ _ | apply SetV.there)))
    | (apply H.cond_true; exact rfl)
    | (apply H.cond_false; exact rfl)
    | (first | apply H.skip | apply H.ret | apply H.then_ret | apply H.then_exit | apply H.exit | apply H.block | apply H.in_normal | apply H.in_ret | apply H.in_hit | apply H.loop_ret | apply H.loop_exit)
    | (apply H.in_miss; exact rfl)
    | (apply H.gyes; (iterate 3 exact rfl); (first | assumption | omega))
    | (apply H.gno; (iterate 3 exact rfl); (first | assumption | omega))
    | (apply H.cond_yes; exact rfl; (first | assumption | omega))
    | (apply H.cond_no; exact rfl; (first | assumption | omega))
    | ((first | apply H.gtrue); (iterate 3 exact rfl); assumption)
    | (apply H.gfalse; (iterate 3 exact rfl); assumption)
    | (apply H.cond_t; exact rfl; assumption)
    | (apply H.cond_f; exact rfl; assumption))
  exact H.ret1 rfl rfl (fun _ h => h) ⟨rfl, rfl, rfl⟩
theorem rlast_fn (hn : s.init.length ≤ 1000000) : Fn Try.prog 27 [.pointer (some ⟨b, 0, none⟩)] f (refH b s :: F) (Ret (.int .u64 s.lv) f (refH b s :: F)) :=
  Fn.reopen f F b s fun eb ec => rlast_o f F b s eb ec hn

theorem rnew_fn : Fn Try.prog 9 [] f F (fun v f' A' => ∃ b, v = .pointer (some ⟨b, 0, none⟩) ∧ f' = f ∧ A' = refH b PM.new :: F) := by
  refine Fn.enter Try.func9 rfl Try.ntmps9 rfl (L := []) trivial fun base => ?_
  repeat (
    first
    | ((first | apply H.move | apply H.assign | apply H.nilCheck | apply H.len_slice); (iterate 3 exact rfl))
    | (apply H.fieldAddr; (iterate 3 exact rfl); exact inferInstance; exact rfl)
    | (apply H.load1; (iterate 3 exact rfl); apply Rd1.ofRow; (repeat (first | exact .here _ _ _ | apply At.there)); (iterate 2 exact rfl))
    | (first | apply H.seq | apply H.region | apply H.nil | apply H.then_normal)
    | ((first | apply H.cmp | apply H.build); (iterate 5 exact rfl))
    | ((first | (apply H.ar; (iterate 4 exact rfl)) | (apply H.conv_int; (iterate 2 exact rfl))); (first | (apply wr_i64_s1; omega) | (apply wr_i64_n1; omega) | (apply wr_i64_nn; omega) | (apply wr_i64; omega) | (apply wr_u64; omega) | (apply wr_u8; omega) | (apply wr_u16; omega) | rfl); exact rfl)
    | (apply H.pass; (iterate 2 exact rfl))
    | (apply H.pass0; exact rfl)
    | (apply H.pickT; (iterate 4 exact rfl))
    | ((first | apply H.pickF | apply H.extract | apply H.not); (iterate 4 exact rfl))
    | ((first | apply H.ptrNil | apply H.sliceNil); (iterate 5 exact rfl))
    | (apply H.store1; (iterate 4 exact rfl); (repeat (first | exact .here _ _ _ | apply At.there)); (repeat (first | exact .here _ _ _ | apply SetV.there)))
    | (apply H.cond_true; exact rfl)
    | (apply H.cond_false; exact rfl)
    | (first | apply H.skip | apply H.ret | apply H.then_ret | apply H.then_exit | apply H.exit | apply H.block | apply H.in_normal | apply H.in_ret | apply H.in_hit | apply H.loop_ret | apply H.loop_exit)
    | (apply H.in_miss; exact rfl)
    | (apply H.gyes; (iterate 3 exact rfl); (first | assumption | omega))
    | (apply H.gno; (iterate 3 exact rfl); (first | assumption | omega))
    | (apply H.cond_yes; exact rfl; (first | assumption | omega))
    | (apply H.cond_no; exact rfl; (first | assumption | omega))
    | ((first | apply H.gtrue); (iterate 3 exact rfl); assumption)
    | (apply H.gfalse; (iterate 3 exact rfl); assumption)
    | (apply H.cond_t; exact rfl; assumption)
    | (apply H.cond_f; exact rfl; assumption))
  refine H.buildSlice rfl rfl rfl rfl (by decide) (by decide) rfl rfl fun eb => ?_
  repeat (
    first
    | ((first | apply H.move | apply H.assign | apply H.nilCheck | apply H.len_slice); (iterate 3 exact rfl))
    | (apply H.fieldAddr; (iterate 3 exact rfl); exact inferInstance; exact rfl)
    | (apply H.load1; (iterate 3 exact rfl); apply Rd1.ofRow; (repeat (first | exact .here _ _ _ | apply At.there)); (iterate 2 exact rfl))
    | (first | apply H.seq | apply H.region | apply H.nil | apply H.then_normal)
    | ((first | apply H.cmp | apply H.build); (iterate 5 exact rfl))
    | ((first | (apply H.ar; (iterate 4 exact rfl)) | (apply H.conv_int; (iterate 2 exact rfl))); (first | (apply wr_i64_s1; omega) | (apply wr_i64_n1; omega) | (apply wr_i64_nn; omega) | (apply wr_i64; omega) | (apply wr_u64; omega) | (apply wr_u8; omega) | (apply wr_u16; omega) | rfl); exact rfl)
    | (apply H.pass; (iterate 2 exact rfl))
    | (apply H.pass0; exact rfl)
    | (apply H.pickT; (iterate 4 exact rfl))
    | ((first | apply H.pickF | apply H.extract | apply H.not); (iterate 4 exact rfl))
    | ((first | apply H.ptrNil | apply H.sliceNil); (iterate 5 exact rfl))
    | (apply H.store1; (iterate 4 exact rfl); (repeat (first | exact .here _ _ _ | apply At.there)); (repeat (first | exact .here _ _ _ | apply SetV.there)))
    | (apply H.cond_true; exact rfl)
    | (apply H.cond_false; exact rfl)
    | (first | apply H.skip | apply H.ret | apply H.then_ret | apply H.then_exit | apply H.exit | apply H.block | apply H.in_normal | apply H.in_ret | apply H.in_hit | apply H.loop_ret | apply H.loop_exit)
    | (apply H.in_miss; exact rfl)
    | (apply H.gyes; (iterate 3 exact rfl); (first | assumption | omega))
    | (apply H.gno; (iterate 3 exact rfl); (first | assumption | omega))
    | (apply H.cond_yes; exact rfl; (first | assumption | omega))
    | (apply H.cond_no; exact rfl; (first | assumption | omega))
    | ((first | apply H.gtrue); (iterate 3 exact rfl); assumption)
    | (apply H.gfalse; (iterate 3 exact rfl); assumption)
    | (apply H.cond_t; exact rfl; assumption)
    | (apply H.cond_f; exact rfl; assumption))
  refine H.box rfl rfl rfl rfl fun b => ?_
  repeat (
    first
    | ((first | apply H.move | apply H.assign | apply H.nilCheck | apply H.len_slice); (iterate 3 exact rfl))
    | (apply H.fieldAddr; (iterate 3 exact rfl); exact inferInstance; exact rfl)
    | (apply H.load1; (iterate 3 exact rfl); apply Rd1.ofRow; (repeat (first | exact .here _ _ _ | apply At.there)); (iterate 2 exact rfl))
    | (first | apply H.seq | apply H.region | apply H.nil | apply H.then_normal)
    | ((first | apply H.cmp | apply H.build); (iterate 5 exact rfl))
    | ((first | (apply H.ar; (iterate 4 exact rfl)) | (apply H.conv_int; (iterate 2 exact rfl))); (first | (apply wr_i64_s1; omega) | (apply wr_i64_n1; omega) | (apply wr_i64_nn; omega) | (apply wr_i64; omega) | (apply wr_u64; omega) | (apply wr_u8; omega) | (apply wr_u16; omega) | rfl); exact rfl)
    | (apply H.pass; (iterate 2 exact rfl))
    | (apply H.pass0; exact rfl)
    | (apply H.pickT; (iterate 4 exact rfl))
    | ((first | apply H.pickF | apply H.extract | apply H.not); (iterate 4 exact rfl))
    | ((first | apply H.ptrNil | apply H.sliceNil); (iterate 5 exact rfl))
    | (apply H.store1; (iterate 4 exact rfl); (repeat (first | exact .here _ _ _ | apply At.there)); (repeat (first | exact .here _ _ _ | apply SetV.there)))
    | (apply H.cond_true; exact rfl)
    | (apply H.cond_false; exact rfl)
    | (first | apply H.skip | apply H.ret | apply H.then_ret | apply H.then_exit | apply H.exit | apply H.block | apply H.in_normal | apply H.in_ret | apply H.in_hit | apply H.loop_ret | apply H.loop_exit)
    | (apply H.in_miss; exact rfl)
    | (apply H.gyes; (iterate 3 exact rfl); (first | assumption | omega))
    | (apply H.gno; (iterate 3 exact rfl); (first | assumption | omega))
    | (apply H.cond_yes; exact rfl; (first | assumption | omega))
    | (apply H.cond_no; exact rfl; (first | assumption | omega))
    | ((first | apply H.gtrue); (iterate 3 exact rfl); assumption)
    | (apply H.gfalse; (iterate 3 exact rfl); assumption)
    | (apply H.cond_t; exact rfl; assumption)
    | (apply H.cond_f; exact rfl; assumption))
  refine H.ret1 rfl rfl (A' := refH b PM.new :: F) ?_ ⟨b, rfl, rfl, rfl⟩
  intro x hx
  refine refH_fold (eb := eb) (ec := 1) x ?_
  refine keep_stars (fun y hy => ?_) x hx
  obtain ⟨m1, m2, d, e, a, r⟩ := hy
  exact ⟨m1, m2, d, e, row_slc (by rfl) (by decide) a, r⟩

theorem ropen_o (eb ec : Nat) (hn : s.init.length ≤ 1000000) (v : Int) : Fn Try.prog 28 [.pointer (some ⟨b, 0, none⟩), .int .u64 v] f (refL b eb ec s ++ F) (Ret (.bool (s.isOpen v)) f (refL b eb ec s ++ F)) := by
  show Fn _ _ _ f (row _ _ _ :: slc _ _ _ _ _ _ :: F) _
  by_cases hv : v = s.g
  · refine Fn.enter Try.func28 rfl Try.ntmps28 rfl (L := [(0, _), (1, _)]) ⟨rfl, rfl, trivial⟩ fun base => ?_
    repeat (
      first
      | ((first | apply H.move | apply H.assign | apply H.nilCheck | apply H.len_slice); (iterate 3 exact rfl))
      | (apply H.fieldAddr; (iterate 3 exact rfl); exact inferInstance; exact rfl)
      | (apply H.load1; (iterate 3 exact rfl); apply Rd1.ofRow; (repeat (first | exact .here _ _ _ | apply At.there)); (iterate 2 exact rfl))
      | (first | apply H.seq | apply H.region | apply H.nil | apply H.then_normal)
      | ((first | apply H.cmp | apply H.build); (iterate 5 exact rfl))
      | ((first | (apply H.ar; (iterate 4 exact rfl)) | (apply H.conv_int; (iterate 2 exact rfl))); (first | (apply wr_i64_s1; omega) | (apply wr_i64_n1; omega) | (apply wr_i64_nn; omega) | (apply wr_i64; omega) | (apply wr_u64; omega) | (apply wr_u8; omega) | (apply wr_u16; omega) | rfl); exact rfl)
      | (apply H.pass; (iterate 2 exact rfl))
      | (apply H.pass0; exact rfl)
      | (apply H.pickT; (iterate 4 exact rfl))
      | ((first | apply H.pickF | apply H.extract | apply H.not); (iterate 4 exact rfl))
      | ((first | apply H.ptrNil | apply H.sliceNil); (iterate 5 exact rfl))
      | (apply H.store1; (iterate 4 exact rfl); (repeat (first | exact .here _ _ _ | apply At.there)); (repeat (first | exact .here _ _ _ | apply SetV.there)))
      | (apply H.cond_true; exact rfl)
      | (apply H.cond_false; exact rfl)
      | (first | apply H.skip | apply H.ret | apply H.then_ret | apply H.then_exit | apply H.exit | apply H.block | apply H.in_normal | apply H.in_ret | apply H.in_hit | apply H.loop_ret | apply H.loop_exit)
      | (apply H.in_miss; exact rfl)
      | (apply H.gyes; (iterate 3 exact rfl); (first | assumption | omega))
      | (apply H.gno; (iterate 3 exact rfl); (first | assumption | omega))
      | (apply H.cond_yes; exact rfl; (first | assumption | omega))
      | (apply H.cond_no; exact rfl; (first | assumption | omega))
      | ((first | apply H.gtrue); (iterate 3 exact rfl); assumption)
      | (apply H.gfalse; (iterate 3 exact rfl); assumption)
      | (apply H.cond_t; exact rfl; assumption)
      | (apply H.cond_f; exact rfl; assumption))
    refine H.call rfl rfl rfl (rlast_o f F b s eb ec hn) fun _ _ _ hR => ?_
    obtain ⟨rfl, rfl, rfl⟩ := hR
    repeat (
      first
      | ((first | apply H.move | apply H.assign | apply H.nilCheck | apply H.len_slice); (iterate 3 exact rfl))
      | (apply H.fieldAddr; (iterate 3 exact rfl); exact inferInstance; exact rfl)
      | (apply H.load1; (iterate 3 exact rfl); apply Rd1.ofRow; (repeat (first | exact .here _ _ _ | apply At.there)); (iterate 2 exact rfl))
      | (first | apply H.seq | apply H.region | apply H.nil | apply H.then_normal)
      | ((first | apply H.cmp | apply H.build); (iterate 5 exact rfl))
      | ((first | (apply H.ar; (iterate 4 exact rfl)) | (apply H.conv_int; (iterate 2 exact rfl))); (first | (apply wr_i64_s1; omega) | (apply wr_i64_n1; omega) | (apply wr_i64_nn; omega) | (apply wr_i64; omega) | (apply wr_u64; omega) | (apply wr_u8; omega) | (apply wr_u16; omega) | rfl); exact rfl)
      | (apply H.pass; (iterate 2 exact rfl))
      | (apply H.pass0; exact rfl)
      | (apply H.pickT; (iterate 4 exact rfl))
      | ((first | apply H.pickF | apply H.extract | apply H.not); (iterate 4 exact rfl))
      | ((first | apply H.ptrNil | apply H.sliceNil); (iterate 5 exact rfl))
      | (apply H.store1; (iterate 4 exact rfl); (repeat (first | exact .here _ _ _ | apply At.there)); (repeat (first | exact .here _ _ _ | apply SetV.there)))
      | (apply H.cond_true; exact rfl)
      | (apply H.cond_false; exact rfl)
      | (first | apply H.skip | apply H.ret | apply H.then_ret | apply H.then_exit | apply H.exit | apply H.block | apply H.in_normal | apply H.in_ret | apply H.in_hit | apply H.loop_ret | apply H.loop_exit)
      | (apply H.in_miss; exact rfl)
      | (apply H.gyes; (iterate 3 exact rfl); (first | assumption | omega))
      | (apply H.gno; (iterate 3 exact rfl); (first | assumption | omega))
      | (apply H.cond_yes; exact rfl; (first | assumption | omega))
      | (apply H.cond_no; exact rfl; (first | assumption | omega))
      | ((first | apply H.gtrue); (iterate 3 exact rfl); assumption)
      | (apply H.gfalse; (iterate 3 exact rfl); assumption)
      | (apply H.cond_t; exact rfl; assumption)
      | (apply H.cond_f; exact rfl; assumption))
    exact H.ret1 rfl rfl (fun _ h => h) ⟨by simp [PM.isOpen, hv], rfl, rfl⟩
  · refine Fn.enter Try.func28 rfl Try.ntmps28 rfl (L := [(0, _), (1, _)]) ⟨rfl, rfl, trivial⟩ fun base => ?_
    repeat (
      first
      | ((first | apply H.move | apply H.assign | apply H.nilCheck | apply H.len_slice); (iterate 3 exact rfl))
      | (apply H.fieldAddr; (iterate 3 exact rfl); exact inferInstance; exact rfl)
      | (apply H.load1; (iterate 3 exact rfl); apply Rd1.ofRow; (repeat (first | exact .here _ _ _ | apply At.there)); (iterate 2 exact rfl))
      | (first | apply H.seq | apply H.region | apply H.nil | apply H.then_normal)
      | ((first | apply H.cmp | apply H.build); (iterate 5 exact rfl))
      | ((first | (apply H.ar; (iterate 4 exact rfl)) | (apply H.conv_int; (iterate 2 exact rfl))); (first | (apply wr_i64_s1; omega) | (apply wr_i64_n1; omega) | (apply wr_i64_nn; omega) | (apply wr_i64; omega) | (apply wr_u64; omega) | (apply wr_u8; omega) | (apply wr_u16; omega) | rfl); exact rfl)
      | (apply H.pass; (iterate 2 exact rfl))
      | (apply H.pass0; exact rfl)
      | (apply H.pickT; (iterate 4 exact rfl))
      | ((first | apply H.pickF | apply H.extract | apply H.not); (iterate 4 exact rfl))
      | ((first | apply H.ptrNil | apply H.sliceNil); (iterate 5 exact rfl))
      | (apply H.store1; (iterate 4 exact rfl); (repeat (first | exact .here _ _ _ | apply At.there)); (repeat (first | exact .here _ _ _ | apply SetV.there)))
      | (apply H.cond_true; exact rfl)
      | (apply H.cond_false; exact rfl)
      | (first | apply H.skip | apply H.ret | apply H.then_ret | apply H.then_exit | apply H.exit | apply H.block | apply H.in_normal | apply H.in_ret | apply H.in_hit | apply H.loop_ret | apply H.loop_exit)
      | (apply H.in_miss; exact rfl)
      | (apply H.gyes; (iterate 3 exact rfl); (first | assumption | omega))
      | (apply H.gno; (iterate 3 exact rfl); (first | assumption | omega))
      | (apply H.cond_yes; exact rfl; (first | assumption | omega))
      | (apply H.cond_no; exact rfl; (first | assumption | omega))
      | ((first | apply H.gtrue); (iterate 3 exact rfl); assumption)
      | (apply H.gfalse; (iterate 3 exact rfl); assumption)
      | (apply H.cond_t; exact rfl; assumption)
      | (apply H.cond_f; exact rfl; assumption))
    exact H.ret1 rfl rfl (fun _ h => h) ⟨by simp [PM.isOpen, hv], rfl, rfl⟩
theorem ropen_fn (hn : s.init.length ≤ 1000000) (v : Int) : Fn Try.prog 28 [.pointer (some ⟨b, 0, none⟩), .int .u64 v] f (refH b s :: F) (Ret (.bool (s.isOpen v)) f (refH b s :: F)) :=
  Fn.reopen f F b s fun eb ec => ropen_o f F b s eb ec hn v

theorem rchange_fn (v : Int) : Fn Try.prog 20 [.pointer (some ⟨b, 0, none⟩), .int .u64 v] f (refH b s :: F) (Ret (.bool (s.changeOk v)) f (refH b (s.change v) :: F)) := by
  refine refH_open fun eb ec => ?_
  by_cases h1 : v ≤ s.g
  · refine Fn.enter Try.func20 rfl Try.ntmps20 rfl (L := [(0, _), (1, _)]) ⟨rfl, rfl, trivial⟩ fun base => ?_
    repeat (
      first
      | ((first | apply H.move | apply H.assign | apply H.nilCheck | apply H.len_slice); (iterate 3 exact rfl))
      | (apply H.fieldAddr; (iterate 3 exact rfl); exact inferInstance; exact rfl)
      | (apply H.load1; (iterate 3 exact rfl); apply Rd1.ofRow; (repeat (first | exact .here _ _ _ | apply At.there)); (iterate 2 exact rfl))
      | (first | apply H.seq | apply H.region | apply H.nil | apply H.then_normal)
      | ((first | apply H.cmp | apply H.build); (iterate 5 exact rfl))
      | ((first | (apply H.ar; (iterate 4 exact rfl)) | (apply H.conv_int; (iterate 2 exact rfl))); (first | (apply wr_i64_s1; omega) | (apply wr_i64_n1; omega) | (apply wr_i64_nn; omega) | (apply wr_i64; omega) | (apply wr_u64; omega) | (apply wr_u8; omega) | (apply wr_u16; omega) | rfl); exact rfl)
      | (apply H.pass; (iterate 2 exact rfl))
      | (apply H.pass0; exact rfl)
      | (apply H.pickT; (iterate 4 exact rfl))
      | ((first | apply H.pickF | apply H.extract | apply H.not); (iterate 4 exact rfl))
      | ((first | apply H.ptrNil | apply H.sliceNil); (iterate 5 exact rfl))
      | (apply H.store1; (iterate 4 exact rfl); (repeat (first | exact .here _ _ _ | apply At.there)); (repeat (first | exact .here _ _ _ | apply SetV.there)))
      | (apply H.cond_true; exact rfl)
      | (apply H.cond_false; exact rfl)
      | (first | apply H.skip | apply H.ret | apply H.then_ret | apply H.then_exit | apply H.exit | apply H.block | apply H.in_normal | apply H.in_ret | apply H.in_hit | apply H.loop_ret | apply H.loop_exit)
      | (apply H.in_miss; exact rfl)
      | (apply H.gyes; (iterate 3 exact rfl); (first | assumption | omega))
      | (apply H.gno; (iterate 3 exact rfl); (first | assumption | omega))
      | (apply H.cond_yes; exact rfl; (first | assumption | omega))
      | (apply H.cond_no; exact rfl; (first | assumption | omega))
      | ((first | apply H.gtrue); (iterate 3 exact rfl); assumption)
      | (apply H.gfalse; (iterate 3 exact rfl); assumption)
      | (apply H.cond_t; exact rfl; assumption)
      | (apply H.cond_f; exact rfl; assumption))
    have e : s.changeOk v = false := by simp [PM.changeOk]; omega
    exact H.ret1 rfl rfl refH_fold ⟨by rw [e], rfl, by simp [PM.change, e]⟩
  · by_cases h2 : 1073741824 ≤ v
    · refine Fn.enter Try.func20 rfl Try.ntmps20 rfl (L := [(0, _), (1, _)]) ⟨rfl, rfl, trivial⟩ fun base => ?_
      repeat (
        first
        | ((first | apply H.move | apply H.assign | apply H.nilCheck | apply H.len_slice); (iterate 3 exact rfl))
        | (apply H.fieldAddr; (iterate 3 exact rfl); exact inferInstance; exact rfl)
        | (apply H.load1; (iterate 3 exact rfl); apply Rd1.ofRow; (repeat (first | exact .here _ _ _ | apply At.there)); (iterate 2 exact rfl))
        | (first | apply H.seq | apply H.region | apply H.nil | apply H.then_normal)
        | ((first | apply H.cmp | apply H.build); (iterate 5 exact rfl))
        | ((first | (apply H.ar; (iterate 4 exact rfl)) | (apply H.conv_int; (iterate 2 exact rfl))); (first | (apply wr_i64_s1; omega) | (apply wr_i64_n1; omega) | (apply wr_i64_nn; omega) | (apply wr_i64; omega) | (apply wr_u64; omega) | (apply wr_u8; omega) | (apply wr_u16; omega) | rfl); exact rfl)
        | (apply H.pass; (iterate 2 exact rfl))
        | (apply H.pass0; exact rfl)
        | (apply H.pickT; (iterate 4 exact rfl))
        | ((first | apply H.pickF | apply H.extract | apply H.not); (iterate 4 exact rfl))
        | ((first | apply H.ptrNil | apply H.sliceNil); (iterate 5 exact rfl))
        | (apply H.store1; (iterate 4 exact rfl); (repeat (first | exact .here _ _ _ | apply At.there)); (repeat (first | exact .here _ _ _ | apply SetV.there)))
        | (apply H.cond_true; exact rfl)
        | (apply H.cond_false; exact rfl)
        | (first | apply H.skip | apply H.ret | apply H.then_ret | apply H.then_exit | apply H.exit | apply H.block | apply H.in_normal | apply H.in_ret | apply H.in_hit | apply H.loop_ret | apply H.loop_exit)
        | (apply H.in_miss; exact rfl)
        | (apply H.gyes; (iterate 3 exact rfl); (first | assumption | omega))
        | (apply H.gno; (iterate 3 exact rfl); (first | assumption | omega))
        | (apply H.cond_yes; exact rfl; (first | assumption | omega))
        | (apply H.cond_no; exact rfl; (first | assumption | omega))
        | ((first | apply H.gtrue); (iterate 3 exact rfl); assumption)
        | (apply H.gfalse; (iterate 3 exact rfl); assumption)
        | (apply H.cond_t; exact rfl; assumption)
        | (apply H.cond_f; exact rfl; assumption))
      have e : s.changeOk v = false := by simp [PM.changeOk]; omega
      exact H.ret1 rfl rfl refH_fold ⟨by rw [e], rfl, by simp [PM.change, e]⟩
    · refine Fn.enter Try.func20 rfl Try.ntmps20 rfl (L := [(0, _), (1, _)]) ⟨rfl, rfl, trivial⟩ fun base => ?_
      repeat (
        first
        | ((first | apply H.move | apply H.assign | apply H.nilCheck | apply H.len_slice); (iterate 3 exact rfl))
        | (apply H.fieldAddr; (iterate 3 exact rfl); exact inferInstance; exact rfl)
        | (apply H.load1; (iterate 3 exact rfl); apply Rd1.ofRow; (repeat (first | exact .here _ _ _ | apply At.there)); (iterate 2 exact rfl))
        | (first | apply H.seq | apply H.region | apply H.nil | apply H.then_normal)
        | ((first | apply H.cmp | apply H.build); (iterate 5 exact rfl))
        | ((first | (apply H.ar; (iterate 4 exact rfl)) | (apply H.conv_int; (iterate 2 exact rfl))); (first | (apply wr_i64_s1; omega) | (apply wr_i64_n1; omega) | (apply wr_i64_nn; omega) | (apply wr_i64; omega) | (apply wr_u64; omega) | (apply wr_u8; omega) | (apply wr_u16; omega) | rfl); exact rfl)
        | (apply H.pass; (iterate 2 exact rfl))
        | (apply H.pass0; exact rfl)
        | (apply H.pickT; (iterate 4 exact rfl))
        | ((first | apply H.pickF | apply H.extract | apply H.not); (iterate 4 exact rfl))
        | ((first | apply H.ptrNil | apply H.sliceNil); (iterate 5 exact rfl))
        | (apply H.store1; (iterate 4 exact rfl); (repeat (first | exact .here _ _ _ | apply At.there)); (repeat (first | exact .here _ _ _ | apply SetV.there)))
        | (apply H.cond_true; exact rfl)
        | (apply H.cond_false; exact rfl)
        | (first | apply H.skip | apply H.ret | apply H.then_ret | apply H.then_exit | apply H.exit | apply H.block | apply H.in_normal | apply H.in_ret | apply H.in_hit | apply H.loop_ret | apply H.loop_exit)
        | (apply H.in_miss; exact rfl)
        | (apply H.gyes; (iterate 3 exact rfl); (first | assumption | omega))
        | (apply H.gno; (iterate 3 exact rfl); (first | assumption | omega))
        | (apply H.cond_yes; exact rfl; (first | assumption | omega))
        | (apply H.cond_no; exact rfl; (first | assumption | omega))
        | ((first | apply H.gtrue); (iterate 3 exact rfl); assumption)
        | (apply H.gfalse; (iterate 3 exact rfl); assumption)
        | (apply H.cond_t; exact rfl; assumption)
        | (apply H.cond_f; exact rfl; assumption))
      have e : s.changeOk v = true := by simp [PM.changeOk]; omega
      refine H.ret1 rfl rfl (A' := refH b (s.change v) :: F) ?_ ⟨by rw [e], rfl, rfl⟩
      rw [show s.change v = { s with g := v } by simp [PM.change, e]]
      exact refH_fold (s := { s with g := v })

theorem votes_bump (s : PM) : SetV (flatV voteV s.all) (s.init.length * 2 + 1) (.int .i64 (s.ln + 1)) (flatV voteV ({ s with ln := s.ln + 1 } : PM).all) := by
  have h : s.init.length * 2 + 1 < (flatV voteV s.all).length := by rw [flatV_length voteV_len, all_len]; omega
  have := SetV.mk (.int .i64 (s.ln + 1)) h
  have e : (flatV voteV s.all).set (s.init.length * 2 + 1) (.int .i64 (s.ln + 1)) = flatV voteV ({ s with ln := s.ln + 1 } : PM).all := by
    simp only [PM.all, flatV_append]
    have h2 : (flatV voteV s.init).length = s.init.length * 2 := flatV_length voteV_len _
    rw [List.set_append_right _ _ (by omega), h2]
    have : s.init.length * 2 + 1 - s.init.length * 2 = 1 := by omega
    rw [this]
    rfl
  rwa [e] at this

theorem rprepare_fn {B : Int} (hw : PM.WF s B) (hB : B ≤ 9000000000000000000) (hn : s.init.length ≤ 1000000) (v : Int) : Fn Try.prog 22 [.pointer (some ⟨b, 0, none⟩), .int .u64 v] f (refH b s :: F) (Ret (.bool (s.isOpen v)) f (refH b (s.prepare v) :: F)) := by
  have hl := hw.last
  cases ho : s.isOpen v with
  | false =>
    refine Fn.enter Try.func22 rfl Try.ntmps22 rfl (L := [(0, _), (1, _)]) ⟨rfl, rfl, trivial⟩ fun base => ?_
    repeat (
      first
      | ((first | apply H.move | apply H.assign | apply H.nilCheck | apply H.len_slice); (iterate 3 exact rfl))
      | (apply H.fieldAddr; (iterate 3 exact rfl); exact inferInstance; exact rfl)
      | (apply H.load1; (iterate 3 exact rfl); apply Rd1.ofRow; (repeat (first | exact .here _ _ _ | apply At.there)); (iterate 2 exact rfl))
      | (first | apply H.seq | apply H.region | apply H.nil | apply H.then_normal)
      | ((first | apply H.cmp | apply H.build); (iterate 5 exact rfl))
      | ((first | (apply H.ar; (iterate 4 exact rfl)) | (apply H.conv_int; (iterate 2 exact rfl))); (first | (apply wr_i64_s1; omega) | (apply wr_i64_n1; omega) | (apply wr_i64_nn; omega) | (apply wr_i64; omega) | (apply wr_u64; omega) | (apply wr_u8; omega) | (apply wr_u16; omega) | rfl); exact rfl)
      | (apply H.pass; (iterate 2 exact rfl))
      | (apply H.pass0; exact rfl)
      | (apply H.pickT; (iterate 4 exact rfl))
      | ((first | apply H.pickF | apply H.extract | apply H.not); (iterate 4 exact rfl))
      | ((first | apply H.ptrNil | apply H.sliceNil); (iterate 5 exact rfl))
      | (apply H.store1; (iterate 4 exact rfl); (repeat (first | exact .here _ _ _ | apply At.there)); (repeat (first | exact .here _ _ _ | apply SetV.there)))
      | (apply H.cond_true; exact rfl)
      | (apply H.cond_false; exact rfl)
      | (first | apply H.skip | apply H.ret | apply H.then_ret | apply H.then_exit | apply H.exit | apply H.block | apply H.in_normal | apply H.in_ret | apply H.in_hit | apply H.loop_ret | apply H.loop_exit)
      | (apply H.in_miss; exact rfl)
      | (apply H.gyes; (iterate 3 exact rfl); (first | assumption | omega))
      | (apply H.gno; (iterate 3 exact rfl); (first | assumption | omega))
      | (apply H.cond_yes; exact rfl; (first | assumption | omega))
      | (apply H.cond_no; exact rfl; (first | assumption | omega))
      | ((first | apply H.gtrue); (iterate 3 exact rfl); assumption)
      | (apply H.gfalse; (iterate 3 exact rfl); assumption)
      | (apply H.cond_t; exact rfl; assumption)
      | (apply H.cond_f; exact rfl; assumption))
    refine H.call rfl rfl rfl (ropen_fn f F b s hn v) fun _ _ _ hR => ?_
    obtain ⟨rfl, rfl, rfl⟩ := hR
    rw [ho]
    repeat (
      first
      | ((first | apply H.move | apply H.assign | apply H.nilCheck | apply H.len_slice); (iterate 3 exact rfl))
      | (apply H.fieldAddr; (iterate 3 exact rfl); exact inferInstance; exact rfl)
      | (apply H.load1; (iterate 3 exact rfl); apply Rd1.ofRow; (repeat (first | exact .here _ _ _ | apply At.there)); (iterate 2 exact rfl))
      | (first | apply H.seq | apply H.region | apply H.nil | apply H.then_normal)
      | ((first | apply H.cmp | apply H.build); (iterate 5 exact rfl))
      | ((first | (apply H.ar; (iterate 4 exact rfl)) | (apply H.conv_int; (iterate 2 exact rfl))); (first | (apply wr_i64_s1; omega) | (apply wr_i64_n1; omega) | (apply wr_i64_nn; omega) | (apply wr_i64; omega) | (apply wr_u64; omega) | (apply wr_u8; omega) | (apply wr_u16; omega) | rfl); exact rfl)
      | (apply H.pass; (iterate 2 exact rfl))
      | (apply H.pass0; exact rfl)
      | (apply H.pickT; (iterate 4 exact rfl))
      | ((first | apply H.pickF | apply H.extract | apply H.not); (iterate 4 exact rfl))
      | ((first | apply H.ptrNil | apply H.sliceNil); (iterate 5 exact rfl))
      | (apply H.store1; (iterate 4 exact rfl); (repeat (first | exact .here _ _ _ | apply At.there)); (repeat (first | exact .here _ _ _ | apply SetV.there)))
      | (apply H.cond_true; exact rfl)
      | (apply H.cond_false; exact rfl)
      | (first | apply H.skip | apply H.ret | apply H.then_ret | apply H.then_exit | apply H.exit | apply H.block | apply H.in_normal | apply H.in_ret | apply H.in_hit | apply H.loop_ret | apply H.loop_exit)
      | (apply H.in_miss; exact rfl)
      | (apply H.gyes; (iterate 3 exact rfl); (first | assumption | omega))
      | (apply H.gno; (iterate 3 exact rfl); (first | assumption | omega))
      | (apply H.cond_yes; exact rfl; (first | assumption | omega))
      | (apply H.cond_no; exact rfl; (first | assumption | omega))
      | ((first | apply H.gtrue); (iterate 3 exact rfl); assumption)
      | (apply H.gfalse; (iterate 3 exact rfl); assumption)
      | (apply H.cond_t; exact rfl; assumption)
      | (apply H.cond_f; exact rfl; assumption))
    exact H.ret1 rfl rfl (fun _ h => h) ⟨rfl, rfl, by simp [PM.prepare, ho]⟩
  | true =>
    refine Fn.enter Try.func22 rfl Try.ntmps22 rfl (L := [(0, _), (1, _)]) ⟨rfl, rfl, trivial⟩ fun base => ?_
    repeat (
      first
      | ((first | apply H.move | apply H.assign | apply H.nilCheck | apply H.len_slice); (iterate 3 exact rfl))
      | (apply H.fieldAddr; (iterate 3 exact rfl); exact inferInstance; exact rfl)
      | (apply H.load1; (iterate 3 exact rfl); apply Rd1.ofRow; (repeat (first | exact .here _ _ _ | apply At.there)); (iterate 2 exact rfl))
      | (first | apply H.seq | apply H.region | apply H.nil | apply H.then_normal)
      | ((first | apply H.cmp | apply H.build); (iterate 5 exact rfl))
      | ((first | (apply H.ar; (iterate 4 exact rfl)) | (apply H.conv_int; (iterate 2 exact rfl))); (first | (apply wr_i64_s1; omega) | (apply wr_i64_n1; omega) | (apply wr_i64_nn; omega) | (apply wr_i64; omega) | (apply wr_u64; omega) | (apply wr_u8; omega) | (apply wr_u16; omega) | rfl); exact rfl)
      | (apply H.pass; (iterate 2 exact rfl))
      | (apply H.pass0; exact rfl)
      | (apply H.pickT; (iterate 4 exact rfl))
      | ((first | apply H.pickF | apply H.extract | apply H.not); (iterate 4 exact rfl))
      | ((first | apply H.ptrNil | apply H.sliceNil); (iterate 5 exact rfl))
      | (apply H.store1; (iterate 4 exact rfl); (repeat (first | exact .here _ _ _ | apply At.there)); (repeat (first | exact .here _ _ _ | apply SetV.there)))
      | (apply H.cond_true; exact rfl)
      | (apply H.cond_false; exact rfl)
      | (first | apply H.skip | apply H.ret | apply H.then_ret | apply H.then_exit | apply H.exit | apply H.block | apply H.in_normal | apply H.in_ret | apply H.in_hit | apply H.loop_ret | apply H.loop_exit)
      | (apply H.in_miss; exact rfl)
      | (apply H.gyes; (iterate 3 exact rfl); (first | assumption | omega))
      | (apply H.gno; (iterate 3 exact rfl); (first | assumption | omega))
      | (apply H.cond_yes; exact rfl; (first | assumption | omega))
      | (apply H.cond_no; exact rfl; (first | assumption | omega))
      | ((first | apply H.gtrue); (iterate 3 exact rfl); assumption)
      | (apply H.gfalse; (iterate 3 exact rfl); assumption)
      | (apply H.cond_t; exact rfl; assumption)
      | (apply H.cond_f; exact rfl; assumption))
    refine H.call rfl rfl rfl (ropen_fn f F b s hn v) fun _ _ _ hR => ?_
    obtain ⟨rfl, rfl, rfl⟩ := hR
    rw [ho]
    repeat (
      first
      | ((first | apply H.move | apply H.assign | apply H.nilCheck | apply H.len_slice); (iterate 3 exact rfl))
      | (apply H.fieldAddr; (iterate 3 exact rfl); exact inferInstance; exact rfl)
      | (apply H.load1; (iterate 3 exact rfl); apply Rd1.ofRow; (repeat (first | exact .here _ _ _ | apply At.there)); (iterate 2 exact rfl))
      | (first | apply H.seq | apply H.region | apply H.nil | apply H.then_normal)
      | ((first | apply H.cmp | apply H.build); (iterate 5 exact rfl))
      | ((first | (apply H.ar; (iterate 4 exact rfl)) | (apply H.conv_int; (iterate 2 exact rfl))); (first | (apply wr_i64_s1; omega) | (apply wr_i64_n1; omega) | (apply wr_i64_nn; omega) | (apply wr_i64; omega) | (apply wr_u64; omega) | (apply wr_u8; omega) | (apply wr_u16; omega) | rfl); exact rfl)
      | (apply H.pass; (iterate 2 exact rfl))
      | (apply H.pass0; exact rfl)
      | (apply H.pickT; (iterate 4 exact rfl))
      | ((first | apply H.pickF | apply H.extract | apply H.not); (iterate 4 exact rfl))
      | ((first | apply H.ptrNil | apply H.sliceNil); (iterate 5 exact rfl))
      | (apply H.store1; (iterate 4 exact rfl); (repeat (first | exact .here _ _ _ | apply At.there)); (repeat (first | exact .here _ _ _ | apply SetV.there)))
      | (apply H.cond_true; exact rfl)
      | (apply H.cond_false; exact rfl)
      | (first | apply H.skip | apply H.ret | apply H.then_ret | apply H.then_exit | apply H.exit | apply H.block | apply H.in_normal | apply H.in_ret | apply H.in_hit | apply H.loop_ret | apply H.loop_exit)
      | (apply H.in_miss; exact rfl)
      | (apply H.gyes; (iterate 3 exact rfl); (first | assumption | omega))
      | (apply H.gno; (iterate 3 exact rfl); (first | assumption | omega))
      | (apply H.cond_yes; exact rfl; (first | assumption | omega))
      | (apply H.cond_no; exact rfl; (first | assumption | omega))
      | ((first | apply H.gtrue); (iterate 3 exact rfl); assumption)
      | (apply H.gfalse; (iterate 3 exact rfl); assumption)
      | (apply H.cond_t; exact rfl; assumption)
      | (apply H.cond_f; exact rfl; assumption))
    refine refH_openH fun eb ec => ?_
    refine H.drawT 16 (by kernel_rfl) (by decide +kernel) ?_
    repeat (
      first
      | ((first | apply HS.move | apply HS.assign | apply HS.nilCheck | apply HS.len_slice); (iterate 3 exact rfl))
      | (apply HS.fieldAddr; (iterate 3 exact rfl); exact inferInstance; exact rfl)
      | (apply HS.load1; (iterate 3 exact rfl); apply Rd1.ofRow; (repeat (first | exact .here _ _ _ | apply At.there)); (iterate 2 exact rfl))
      | apply HS.done
      | ((first | apply HS.cmp | apply HS.build); (iterate 5 exact rfl))
      | ((first | (apply HS.ar; (iterate 4 exact rfl)) | (apply HS.conv_int; (iterate 2 exact rfl))); (first | (apply wr_i64_s1; omega) | (apply wr_i64_n1; omega) | (apply wr_i64_nn; omega) | (apply wr_i64; omega) | (apply wr_u64; omega) | (apply wr_u8; omega) | (apply wr_u16; omega) | rfl); exact rfl)
      | (apply HS.pass; (iterate 2 exact rfl))
      | (apply HS.pickT; (iterate 4 exact rfl))
      | ((first | apply HS.pickF | apply HS.extract | apply HS.not); (iterate 4 exact rfl))
      | ((first | apply HS.ptrNil | apply HS.sliceNil); (iterate 5 exact rfl))
      | (apply HS.gyes; (iterate 3 exact rfl); (first | assumption | omega))
      | (apply HS.gno; (iterate 3 exact rfl); (first | assumption | omega))
      | (apply HS.gtrue; (iterate 3 exact rfl); assumption)
      | (apply HS.gfalse; (iterate 3 exact rfl); assumption))
    refine HS.index0 rfl rfl rfl rfl (by omega) rfl ?_
    repeat (
      first
      | ((first | apply HS.move | apply HS.assign | apply HS.nilCheck | apply HS.len_slice); (iterate 3 exact rfl))
      | (apply HS.fieldAddr; (iterate 3 exact rfl); exact inferInstance; exact rfl)
      | (apply HS.load1; (iterate 3 exact rfl); apply Rd1.ofRow; (repeat (first | exact .here _ _ _ | apply At.there)); (iterate 2 exact rfl))
      | apply HS.done
      | ((first | apply HS.cmp | apply HS.build); (iterate 5 exact rfl))
      | ((first | (apply HS.ar; (iterate 4 exact rfl)) | (apply HS.conv_int; (iterate 2 exact rfl))); (first | (apply wr_i64_s1; omega) | (apply wr_i64_n1; omega) | (apply wr_i64_nn; omega) | (apply wr_i64; omega) | (apply wr_u64; omega) | (apply wr_u8; omega) | (apply wr_u16; omega) | rfl); exact rfl)
      | (apply HS.pass; (iterate 2 exact rfl))
      | (apply HS.pickT; (iterate 4 exact rfl))
      | ((first | apply HS.pickF | apply HS.extract | apply HS.not); (iterate 4 exact rfl))
      | ((first | apply HS.ptrNil | apply HS.sliceNil); (iterate 5 exact rfl))
      | (apply HS.gyes; (iterate 3 exact rfl); (first | assumption | omega))
      | (apply HS.gno; (iterate 3 exact rfl); (first | assumption | omega))
      | (apply HS.gtrue; (iterate 3 exact rfl); assumption)
      | (apply HS.gfalse; (iterate 3 exact rfl); assumption))
    refine HS.load1 rfl rfl rfl (.at0 (Rd.ofSlc (by repeat (first | exact .here _ _ _ | apply At.there)) (by omega)) (votes_ln s)) rfl ?_
    repeat (
      first
      | ((first | apply HS.move | apply HS.assign | apply HS.nilCheck | apply HS.len_slice); (iterate 3 exact rfl))
      | (apply HS.fieldAddr; (iterate 3 exact rfl); exact inferInstance; exact rfl)
      | (apply HS.load1; (iterate 3 exact rfl); apply Rd1.ofRow; (repeat (first | exact .here _ _ _ | apply At.there)); (iterate 2 exact rfl))
      | apply HS.done
      | ((first | apply HS.cmp | apply HS.build); (iterate 5 exact rfl))
      | ((first | (apply HS.ar; (iterate 4 exact rfl)) | (apply HS.conv_int; (iterate 2 exact rfl))); (first | (apply wr_i64_s1; omega) | (apply wr_i64_n1; omega) | (apply wr_i64_nn; omega) | (apply wr_i64; omega) | (apply wr_u64; omega) | (apply wr_u8; omega) | (apply wr_u16; omega) | rfl); exact rfl)
      | (apply HS.pass; (iterate 2 exact rfl))
      | (apply HS.pickT; (iterate 4 exact rfl))
      | ((first | apply HS.pickF | apply HS.extract | apply HS.not); (iterate 4 exact rfl))
      | ((first | apply HS.ptrNil | apply HS.sliceNil); (iterate 5 exact rfl))
      | (apply HS.gyes; (iterate 3 exact rfl); (first | assumption | omega))
      | (apply HS.gno; (iterate 3 exact rfl); (first | assumption | omega))
      | (apply HS.gtrue; (iterate 3 exact rfl); assumption)
      | (apply HS.gfalse; (iterate 3 exact rfl); assumption))
    refine HS.index0 rfl rfl rfl rfl (by omega) rfl ?_
    repeat (
      first
      | ((first | apply HS.move | apply HS.assign | apply HS.nilCheck | apply HS.len_slice); (iterate 3 exact rfl))
      | (apply HS.fieldAddr; (iterate 3 exact rfl); exact inferInstance; exact rfl)
      | (apply HS.load1; (iterate 3 exact rfl); apply Rd1.ofRow; (repeat (first | exact .here _ _ _ | apply At.there)); (iterate 2 exact rfl))
      | apply HS.done
      | ((first | apply HS.cmp | apply HS.build); (iterate 5 exact rfl))
      | ((first | (apply HS.ar; (iterate 4 exact rfl)) | (apply HS.conv_int; (iterate 2 exact rfl))); (first | (apply wr_i64_s1; omega) | (apply wr_i64_n1; omega) | (apply wr_i64_nn; omega) | (apply wr_i64; omega) | (apply wr_u64; omega) | (apply wr_u8; omega) | (apply wr_u16; omega) | rfl); exact rfl)
      | (apply HS.pass; (iterate 2 exact rfl))
      | (apply HS.pickT; (iterate 4 exact rfl))
      | ((first | apply HS.pickF | apply HS.extract | apply HS.not); (iterate 4 exact rfl))
      | ((first | apply HS.ptrNil | apply HS.sliceNil); (iterate 5 exact rfl))
      | (apply HS.gyes; (iterate 3 exact rfl); (first | assumption | omega))
      | (apply HS.gno; (iterate 3 exact rfl); (first | assumption | omega))
      | (apply HS.gtrue; (iterate 3 exact rfl); assumption)
      | (apply HS.gfalse; (iterate 3 exact rfl); assumption))
    refine H.store_slc rfl rfl rfl rfl (by repeat (first | exact .here _ _ _ | apply At.there)) (votes_bump s) ?_
    repeat (
      first
      | ((first | apply H.move | apply H.assign | apply H.nilCheck | apply H.len_slice); (iterate 3 exact rfl))
      | (apply H.fieldAddr; (iterate 3 exact rfl); exact inferInstance; exact rfl)
      | (apply H.load1; (iterate 3 exact rfl); apply Rd1.ofRow; (repeat (first | exact .here _ _ _ | apply At.there)); (iterate 2 exact rfl))
      | (first | apply H.seq | apply H.region | apply H.nil | apply H.then_normal)
      | ((first | apply H.cmp | apply H.build); (iterate 5 exact rfl))
      | ((first | (apply H.ar; (iterate 4 exact rfl)) | (apply H.conv_int; (iterate 2 exact rfl))); (first | (apply wr_i64_s1; omega) | (apply wr_i64_n1; omega) | (apply wr_i64_nn; omega) | (apply wr_i64; omega) | (apply wr_u64; omega) | (apply wr_u8; omega) | (apply wr_u16; omega) | rfl); exact rfl)
      | (apply H.pass; (iterate 2 exact rfl))
      | (apply H.pass0; exact rfl)
      | (apply H.pickT; (iterate 4 exact rfl))
      | ((first | apply H.pickF | apply H.extract | apply H.not); (iterate 4 exact rfl))
      | ((first | apply H.ptrNil | apply H.sliceNil); (iterate 5 exact rfl))
      | (apply H.store1; (iterate 4 exact rfl); (repeat (first | exact .here _ _ _ | apply At.there)); (repeat (first | exact .here _ _ _ | apply SetV.there)))
      | (apply H.cond_true; exact rfl)
      | (apply H.cond_false; exact rfl)
      | (first | apply H.skip | apply H.ret | apply H.then_ret | apply H.then_exit | apply H.exit | apply H.block | apply H.in_normal | apply H.in_ret | apply H.in_hit | apply H.loop_ret | apply H.loop_exit)
      | (apply H.in_miss; exact rfl)
      | (apply H.gyes; (iterate 3 exact rfl); (first | assumption | omega))
      | (apply H.gno; (iterate 3 exact rfl); (first | assumption | omega))
      | (apply H.cond_yes; exact rfl; (first | assumption | omega))
      | (apply H.cond_no; exact rfl; (first | assumption | omega))
      | ((first | apply H.gtrue); (iterate 3 exact rfl); assumption)
      | (apply H.gfalse; (iterate 3 exact rfl); assumption)
      | (apply H.cond_t; exact rfl; assumption)
      | (apply H.cond_f; exact rfl; assumption))
    have hf := refH_fold (b := b) (eb := eb) (ec := ec) (s := { s with ln := s.ln + 1 }) (F := F)
    rw [show s.prepare v = { s with ln := s.ln + 1 } by simp [PM.prepare, ho]]
    exact H.ret1 rfl rfl hf ⟨rfl, rfl, rfl⟩
end
end Go.Proofs.Ytfplfddobjbbnaa
