/- Layer 14: what a step does to all views; PastStays. -/
import Derived.Test.YtfplfddobjbbnaaPh
namespace Go.Proofs.Ytfplfddobjbbnaa
set_option linter.unusedSectionVars false
set_option linter.unusedSimpArgs false
set_option linter.unusedVariables false
open Go Go.RowKit

namespace PM
theorem voted_list : ∀ (l : List (Int × Int)), (l.map (·.1)).Pairwise (· < ·) → ∀ (k : Nat) (w n : Int), l[k]? = some (w, n) → voted l w = some n
  | [], _, k, w, n, h => by simp at h
  | (v, m) :: r, hp, 0, w, n, h => by
    simp at h
    obtain ⟨rfl, rfl⟩ := h
    simp [voted]
  | (v, m) :: r, hp, k + 1, w, n, h => by
    simp only [List.map_cons, List.pairwise_cons] at hp
    have h' : r[k]? = some (w, n) := by simpa using h
    have : v < w := hp.1 w (List.mem_map.2 ⟨(w, n), List.mem_of_getElem? h', rfl⟩)
    simp only [voted]
    rw [if_neg (by omega)]
    exact voted_list r hp.2 k w n h'
theorem WF.voted_at {s : PM} {B : Int} (h : WF s B) {k : Nat} {w n : Int} (hk : s.all[k]? = some (w, n)) : voted s.all w = some n := voted_list _ h.rise k w n hk
theorem WF.rises {s : PM} {B : Int} (h : WF s B) {k : Nat} {p q : Int × Int} (hp : s.all[k]? = some p) (hq : s.all[k + 1]? = some q) : p.1 < q.1 := by
  have h1 := (List.pairwise_iff_getElem.1 h.rise) k (k + 1)
  have a1 : k < s.all.length := by
    rcases Nat.lt_or_ge k s.all.length with h | h
    · exact h
    · rw [List.getElem?_eq_none h] at hp; cases hp
  have a2 : k + 1 < s.all.length := by
    rcases Nat.lt_or_ge (k + 1) s.all.length with h | h
    · exact h
    · rw [List.getElem?_eq_none h] at hq; cases hq
  rw [List.getElem?_eq_getElem a1] at hp
  rw [List.getElem?_eq_getElem a2] at hq
  cases hp; cases hq
  have := h1 (by simpa using a1) (by simpa using a2) (by omega)
  simpa using this
theorem stepS_no {s : PM} {x : Stp} (h : s.okS x = false) : s.stepS x = s := by
  unfold okS at h
  unfold stepS change enter prepare commit
  split at h
  · rw [if_pos (by assumption), if_neg (by rw [h]; decide)]
  · rw [if_neg (by assumption)]
    split at h
    · rw [if_pos (by assumption), if_neg (by rw [h]; decide)]
    · rw [if_neg (by assumption)]
      split at h
      · rw [if_pos (by assumption), if_neg (by rw [h]; decide)]
      · rw [if_neg (by assumption), if_neg (by rw [h]; decide)]
theorem stepS_g (s : PM) (x : Stp) : s.g ≤ (s.stepS x).g := by
  unfold stepS change enter prepare commit
  repeat' split
  all_goals (try simp only [changeOk, enterOk, decide_eq_true_eq] at *)
  all_goals omega
theorem bump_all (s : PM) {k : Nat} {w n : Int} (h : s.all[k]? = some (w, n)) : ∃ n', ({ s with ln := s.ln + 1 } : PM).all[k]? = some (w, n') ∧ n ≤ n' ∧ (n' ≠ n → w = s.lv) := by
  simp only [all, List.getElem?_append] at h ⊢
  split at h
  · rename_i c
    rw [if_pos c]
    exact ⟨n, h, Int.le_refl _, fun h => absurd rfl h⟩
  · rename_i c
    rw [if_neg c]
    cases hk : k - s.init.length with
    | zero =>
      rw [hk] at h
      simp at h
      obtain ⟨rfl, rfl⟩ := h
      exact ⟨s.ln + 1, rfl, by omega, fun _ => rfl⟩
    | succ m => rw [hk] at h; simp at h
theorem stepS_all (s : PM) (x : Stp) {k : Nat} {w n : Int} (h : s.all[k]? = some (w, n)) : ∃ n', (s.stepS x).all[k]? = some (w, n') ∧ n ≤ n' ∧ (n' ≠ n → s.okS x = true ∧ s.g ≤ w) := by
  cases ho : s.okS x with
  | false => rw [stepS_no ho]; exact ⟨n, h, Int.le_refl _, fun h => absurd rfl h⟩
  | true =>
    unfold okS at ho
    unfold stepS
    split at ho
    · rw [if_pos (by assumption)]
      unfold change
      rw [if_pos ho]
      exact ⟨n, h, Int.le_refl _, fun h => absurd rfl h⟩
    · rw [if_neg (by assumption)]
      split at ho
      · rw [if_pos (by assumption)]
        unfold enter
        rw [if_pos ho]
        refine ⟨n, ?_, Int.le_refl _, fun h => absurd rfl h⟩
        show (s.all ++ [(x.v, x.l)])[k]? = _
        have a1 : k < s.all.length := by
          rcases Nat.lt_or_ge k s.all.length with h' | h'
          · exact h'
          · rw [List.getElem?_eq_none h'] at h; cases h
        rw [List.getElem?_append_left a1]; exact h
      · rw [if_neg (by assumption)]
        split at ho
        · rw [if_pos (by assumption)]
          unfold prepare
          rw [if_pos ho]
          obtain ⟨n', h1, h2, h3⟩ := s.bump_all h
          simp only [isOpen, decide_eq_true_eq] at ho
          exact ⟨n', h1, h2, fun hne => ⟨rfl, by have := h3 hne; omega⟩⟩
        · rw [if_neg (by assumption)]
          unfold commit
          rw [if_pos ho]
          obtain ⟨n', h1, h2, h3⟩ := s.bump_all h
          simp only [commitOk, decide_eq_true_eq] at ho
          exact ⟨n', h1, h2, fun hne => ⟨rfl, by have := h3 hne; omega⟩⟩
theorem stepS_len_ge (s : PM) (x : Stp) : s.init.length ≤ (s.stepS x).init.length := by
  unfold stepS change enter prepare commit
  repeat' split
  all_goals simp [all]
end PM
def longV (l : List (Int × Int)) : List Value := l.map fun p => .int .i64 p.2

section
variable (f : Frag) (F : List HP)

theorem voted_some {b : Nat} {s : PM} {w m : Int} (hv : PM.voted s.all w = some m) : Fn Try.prog 13 [.pointer (some ⟨b, 0, none⟩), .int .u64 w] f (pastH b s :: F) (Ret (.tuple #[.int .i64 m, .bool true]) f (pastH b s :: F)) := by
  have h := voted_fn f F b s w
  rw [hv] at h
  exact h
set_option maxHeartbeats 4000000 in
theorem pastStays_fn (p : Option Addr) (c : Nat) (xs : List Stp) (hxs : ∀ x ∈ xs, x.Ok) (hat : ListAt f p 4 Stp.vals xs) :
    Fn Try.prog 4 [.slice p xs.length c] f F (Ret (.bool true) f F) := by
  by_cases hl : 200 < xs.length
  · refine Fn.enter Try.func4 rfl Try.ntmps4 rfl (L := [(0, _)]) ⟨rfl, trivial⟩ fun base => ?_
    repeat (
      first
      | ((first | apply H.move | apply H.assign | apply H.nilCheck | apply H.len_slice); (iterate 3 exact rfl))
      | (apply H.fieldAddr; (iterate 3 exact rfl); exact inferInstance; exact rfl)
      | (apply H.load1; (iterate 3 exact rfl); apply Rd1.ofRow; (repeat (first | exact .here _ _ _ | apply At.there)); (iterate 2 exact rfl))
      | (first | apply H.seq | apply H.region | apply H.nil | apply H.then_normal)
      | ((first | apply H.cmp | apply H.build); (iterate 5 exact rfl))
      | ((first | (apply H.ar; (iterate 4 exact rfl)) | (apply H.conv_int; (iterate 2 exact rfl))); (first | (apply wr_i64_s1; omega) | (apply wr_i64_n1; omega) | (apply wr_i64_nn; omega) | (apply wr_i64; omega) | (apply wr_u64; omega) | (apply wr_u8; omega) | (apply wr_u16; omega) | rfl); exact rfl)
      | (apply H.pass; (iterate 2 exact rfl))
      | (apply H.pass0; exact rfl)
      | (apply H.pickT; (iterate 4 exact rfl))
      | ((first | apply H.pickF | apply H.extract | apply H.not); (iterate 4 exact rfl))
      | ((first | apply H.ptrNil | apply H.sliceNil); (iterate 5 exact rfl))
      | (apply H.store1; (iterate 4 exact rfl); (repeat (first | exact .here _ _ _ | apply At.there)); (repeat (first | exact .here _ _ _ | apply SetV.there)))
      | (apply H.cond_true; exact rfl)
      | (apply H.cond_false; exact rfl)
      | (first | apply H.skip | apply H.ret | apply H.then_ret | apply H.then_exit | apply H.exit | apply H.block | apply H.in_normal | apply H.in_ret | apply H.in_hit | apply H.loop_ret | apply H.loop_exit)
      | (apply H.in_miss; exact rfl)
      | (apply H.gyes; (iterate 3 exact rfl); (first | assumption | omega))
      | (apply H.gno; (iterate 3 exact rfl); (first | assumption | omega))
      | (apply H.cond_yes; exact rfl; (first | assumption | omega))
      | (apply H.cond_no; exact rfl; (first | assumption | omega))
      | ((first | apply H.gtrue); (iterate 3 exact rfl); assumption)
      | (apply H.gfalse; (iterate 3 exact rfl); assumption)
      | (apply H.cond_t; exact rfl; assumption)
      | (apply H.cond_f; exact rfl; assumption))
    refine H.callR rfl rfl rfl (works_fn f _) ?_
    repeat (
      first
      | ((first | apply H.move | apply H.assign | apply H.nilCheck | apply H.len_slice); (iterate 3 exact rfl))
      | (apply H.fieldAddr; (iterate 3 exact rfl); exact inferInstance; exact rfl)
      | (apply H.load1; (iterate 3 exact rfl); apply Rd1.ofRow; (repeat (first | exact .here _ _ _ | apply At.there)); (iterate 2 exact rfl))
      | (first | apply H.seq | apply H.region | apply H.nil | apply H.then_normal)
      | ((first | apply H.cmp | apply H.build); (iterate 5 exact rfl))
      | ((first | (apply H.ar; (iterate 4 exact rfl)) | (apply H.conv_int; (iterate 2 exact rfl))); (first | (apply wr_i64_s1; omega) | (apply wr_i64_n1; omega) | (apply wr_i64_nn; omega) | (apply wr_i64; omega) | (apply wr_u64; omega) | (apply wr_u8; omega) | (apply wr_u16; omega) | rfl); exact rfl)
      | (apply H.pass; (iterate 2 exact rfl))
      | (apply H.pass0; exact rfl)
      | (apply H.pickT; (iterate 4 exact rfl))
      | ((first | apply H.pickF | apply H.extract | apply H.not); (iterate 4 exact rfl))
      | ((first | apply H.ptrNil | apply H.sliceNil); (iterate 5 exact rfl))
      | (apply H.store1; (iterate 4 exact rfl); (repeat (first | exact .here _ _ _ | apply At.there)); (repeat (first | exact .here _ _ _ | apply SetV.there)))
      | (apply H.cond_true; exact rfl)
      | (apply H.cond_false; exact rfl)
      | (first | apply H.skip | apply H.ret | apply H.then_ret | apply H.then_exit | apply H.exit | apply H.block | apply H.in_normal | apply H.in_ret | apply H.in_hit | apply H.loop_ret | apply H.loop_exit)
      | (apply H.in_miss; exact rfl)
      | (apply H.gyes; (iterate 3 exact rfl); (first | assumption | omega))
      | (apply H.gno; (iterate 3 exact rfl); (first | assumption | omega))
      | (apply H.cond_yes; exact rfl; (first | assumption | omega))
      | (apply H.cond_no; exact rfl; (first | assumption | omega))
      | ((first | apply H.gtrue); (iterate 3 exact rfl); assumption)
      | (apply H.gfalse; (iterate 3 exact rfl); assumption)
      | (apply H.cond_t; exact rfl; assumption)
      | (apply H.cond_f; exact rfl; assumption))
    exact H.ret1 rfl rfl (fun _ h => h) ⟨rfl, rfl, rfl⟩
  · refine Fn.enter Try.func4 rfl Try.ntmps4 rfl (L := [(0, _)]) ⟨rfl, trivial⟩ fun base => ?_
    repeat (
      first
      | ((first | apply H.move | apply H.assign | apply H.nilCheck | apply H.len_slice); (iterate 3 exact rfl))
      | (apply H.fieldAddr; (iterate 3 exact rfl); exact inferInstance; exact rfl)
      | (apply H.load1; (iterate 3 exact rfl); apply Rd1.ofRow; (repeat (first | exact .here _ _ _ | apply At.there)); (iterate 2 exact rfl))
      | (first | apply H.seq | apply H.region | apply H.nil | apply H.then_normal)
      | ((first | apply H.cmp | apply H.build); (iterate 5 exact rfl))
      | ((first | (apply H.ar; (iterate 4 exact rfl)) | (apply H.conv_int; (iterate 2 exact rfl))); (first | (apply wr_i64_s1; omega) | (apply wr_i64_n1; omega) | (apply wr_i64_nn; omega) | (apply wr_i64; omega) | (apply wr_u64; omega) | (apply wr_u8; omega) | (apply wr_u16; omega) | rfl); exact rfl)
      | (apply H.pass; (iterate 2 exact rfl))
      | (apply H.pass0; exact rfl)
      | (apply H.pickT; (iterate 4 exact rfl))
      | ((first | apply H.pickF | apply H.extract | apply H.not); (iterate 4 exact rfl))
      | ((first | apply H.ptrNil | apply H.sliceNil); (iterate 5 exact rfl))
      | (apply H.store1; (iterate 4 exact rfl); (repeat (first | exact .here _ _ _ | apply At.there)); (repeat (first | exact .here _ _ _ | apply SetV.there)))
      | (apply H.cond_true; exact rfl)
      | (apply H.cond_false; exact rfl)
      | (first | apply H.skip | apply H.ret | apply H.then_ret | apply H.then_exit | apply H.exit | apply H.block | apply H.in_normal | apply H.in_ret | apply H.in_hit | apply H.loop_ret | apply H.loop_exit)
      | (apply H.in_miss; exact rfl)
      | (apply H.gyes; (iterate 3 exact rfl); (first | assumption | omega))
      | (apply H.gno; (iterate 3 exact rfl); (first | assumption | omega))
      | (apply H.cond_yes; exact rfl; (first | assumption | omega))
      | (apply H.cond_no; exact rfl; (first | assumption | omega))
      | ((first | apply H.gtrue); (iterate 3 exact rfl); assumption)
      | (apply H.gfalse; (iterate 3 exact rfl); assumption)
      | (apply H.cond_t; exact rfl; assumption)
      | (apply H.cond_f; exact rfl; assumption))
    refine H.callE rfl rfl rfl (new_fn f F) fun b => ?_
    repeat (
      first
      | ((first | apply H.move | apply H.assign | apply H.nilCheck | apply H.len_slice); (iterate 3 exact rfl))
      | (apply H.fieldAddr; (iterate 3 exact rfl); exact inferInstance; exact rfl)
      | (apply H.load1; (iterate 3 exact rfl); apply Rd1.ofRow; (repeat (first | exact .here _ _ _ | apply At.there)); (iterate 2 exact rfl))
      | (first | apply H.seq | apply H.region | apply H.nil | apply H.then_normal)
      | ((first | apply H.cmp | apply H.build); (iterate 5 exact rfl))
      | ((first | (apply H.ar; (iterate 4 exact rfl)) | (apply H.conv_int; (iterate 2 exact rfl))); (first | (apply wr_i64_s1; omega) | (apply wr_i64_n1; omega) | (apply wr_i64_nn; omega) | (apply wr_i64; omega) | (apply wr_u64; omega) | (apply wr_u8; omega) | (apply wr_u16; omega) | rfl); exact rfl)
      | (apply H.pass; (iterate 2 exact rfl))
      | (apply H.pass0; exact rfl)
      | (apply H.pickT; (iterate 4 exact rfl))
      | ((first | apply H.pickF | apply H.extract | apply H.not); (iterate 4 exact rfl))
      | ((first | apply H.ptrNil | apply H.sliceNil); (iterate 5 exact rfl))
      | (apply H.store1; (iterate 4 exact rfl); (repeat (first | exact .here _ _ _ | apply At.there)); (repeat (first | exact .here _ _ _ | apply SetV.there)))
      | (apply H.cond_true; exact rfl)
      | (apply H.cond_false; exact rfl)
      | (first | apply H.skip | apply H.ret | apply H.then_ret | apply H.then_exit | apply H.exit | apply H.block | apply H.in_normal | apply H.in_ret | apply H.in_hit | apply H.loop_ret | apply H.loop_exit)
      | (apply H.in_miss; exact rfl)
      | (apply H.gyes; (iterate 3 exact rfl); (first | assumption | omega))
      | (apply H.gno; (iterate 3 exact rfl); (first | assumption | omega))
      | (apply H.cond_yes; exact rfl; (first | assumption | omega))
      | (apply H.cond_no; exact rfl; (first | assumption | omega))
      | ((first | apply H.gtrue); (iterate 3 exact rfl); assumption)
      | (apply H.gfalse; (iterate 3 exact rfl); assumption)
      | (apply H.cond_t; exact rfl; assumption)
      | (apply H.cond_f; exact rfl; assumption))
    refine H.loop (ι := Nat × PM) (fun i => [(4, .int .i64 (i.1 : Int)), (0, .slice p xs.length c), (3, .pointer (some ⟨b, 0, none⟩))]) (fun _ => f)
      (fun i => pastH b i.2 :: F) (fun i => i.1 ≤ xs.length ∧ PM.WF i.2 (1073741824 + (i.1 : Int)) ∧ i.2.init.length ≤ i.1) (fun i => xs.length - i.1) (0, PM.new)
      ⟨by omega, PM.new_wf.mono (by decide), by decide⟩ ⟨rfl, rfl, rfl, trivial⟩ rfl rfl fun i hi => ?_
    obtain ⟨k, s⟩ := i
    obtain ⟨hk, hw, hn⟩ : k ≤ xs.length ∧ PM.WF s (1073741824 + (k : Int)) ∧ s.init.length ≤ k := hi
    show H _ _ _ [(4, .int .i64 (k : Int)), (0, .slice p xs.length c), (3, .pointer (some ⟨b, 0, none⟩))] _ (pastH b s :: F) _
    repeat (
      first
      | ((first | apply H.move | apply H.assign | apply H.nilCheck | apply H.len_slice); (iterate 3 exact rfl))
      | (apply H.fieldAddr; (iterate 3 exact rfl); exact inferInstance; exact rfl)
      | (apply H.load1; (iterate 3 exact rfl); apply Rd1.ofRow; (repeat (first | exact .here _ _ _ | apply At.there)); (iterate 2 exact rfl))
      | (first | apply H.seq | apply H.region | apply H.nil | apply H.then_normal)
      | ((first | apply H.cmp | apply H.build); (iterate 5 exact rfl))
      | ((first | (apply H.ar; (iterate 4 exact rfl)) | (apply H.conv_int; (iterate 2 exact rfl))); (first | (apply wr_i64_s1; omega) | (apply wr_i64_n1; omega) | (apply wr_i64_nn; omega) | (apply wr_i64; omega) | (apply wr_u64; omega) | (apply wr_u8; omega) | (apply wr_u16; omega) | rfl); exact rfl)
      | (apply H.pass; (iterate 2 exact rfl))
      | (apply H.pass0; exact rfl)
      | (apply H.pickT; (iterate 4 exact rfl))
      | ((first | apply H.pickF | apply H.extract | apply H.not); (iterate 4 exact rfl))
      | ((first | apply H.ptrNil | apply H.sliceNil); (iterate 5 exact rfl))
      | (apply H.store1; (iterate 4 exact rfl); (repeat (first | exact .here _ _ _ | apply At.there)); (repeat (first | exact .here _ _ _ | apply SetV.there)))
      | (apply H.cond_true; exact rfl)
      | (apply H.cond_false; exact rfl)
      | (first | apply H.skip | apply H.ret | apply H.then_ret | apply H.then_exit | apply H.exit | apply H.block | apply H.in_normal | apply H.in_ret | apply H.in_hit | apply H.loop_ret | apply H.loop_exit)
      | (apply H.in_miss; exact rfl)
      | (apply H.gyes; (iterate 3 exact rfl); (first | assumption | omega))
      | (apply H.gno; (iterate 3 exact rfl); (first | assumption | omega))
      | (apply H.cond_yes; exact rfl; (first | assumption | omega))
      | (apply H.cond_no; exact rfl; (first | assumption | omega))
      | ((first | apply H.gtrue); (iterate 3 exact rfl); assumption)
      | (apply H.gfalse; (iterate 3 exact rfl); assumption)
      | (apply H.cond_t; exact rfl; assumption)
      | (apply H.cond_f; exact rfl; assumption))
    by_cases hlt : k < xs.length
    · obtain ⟨x, hx⟩ : ∃ x, xs[k]? = some x := ⟨xs[k], List.getElem?_eq_getElem hlt⟩
      have hxo : x.Ok := hxs x (List.mem_of_getElem? hx)
      obtain ⟨ab, off, cs, T, fr, rfl, hfb, hcs⟩ := hat k x hx
      have rd : ∀ A, Rd f A ab (off + k * 4) x.vals := fun A => Rd.imm hfb hcs
      clear hcs hfb
      repeat (
        first
        | ((first | apply H.move | apply H.assign | apply H.nilCheck | apply H.len_slice); (iterate 3 exact rfl))
        | (apply H.fieldAddr; (iterate 3 exact rfl); exact inferInstance; exact rfl)
        | (apply H.load1; (iterate 3 exact rfl); apply Rd1.ofRow; (repeat (first | exact .here _ _ _ | apply At.there)); (iterate 2 exact rfl))
        | (first | apply H.seq | apply H.region | apply H.nil | apply H.then_normal)
        | ((first | apply H.cmp | apply H.build); (iterate 5 exact rfl))
        | ((first | (apply H.ar; (iterate 4 exact rfl)) | (apply H.conv_int; (iterate 2 exact rfl))); (first | (apply wr_i64_s1; omega) | (apply wr_i64_n1; omega) | (apply wr_i64_nn; omega) | (apply wr_i64; omega) | (apply wr_u64; omega) | (apply wr_u8; omega) | (apply wr_u16; omega) | rfl); exact rfl)
        | (apply H.pass; (iterate 2 exact rfl))
        | (apply H.pass0; exact rfl)
        | (apply H.pickT; (iterate 4 exact rfl))
        | ((first | apply H.pickF | apply H.extract | apply H.not); (iterate 4 exact rfl))
        | ((first | apply H.ptrNil | apply H.sliceNil); (iterate 5 exact rfl))
        | (apply H.store1; (iterate 4 exact rfl); (repeat (first | exact .here _ _ _ | apply At.there)); (repeat (first | exact .here _ _ _ | apply SetV.there)))
        | (apply H.cond_true; exact rfl)
        | (apply H.cond_false; exact rfl)
        | (first | apply H.skip | apply H.ret | apply H.then_ret | apply H.then_exit | apply H.exit | apply H.block | apply H.in_normal | apply H.in_ret | apply H.in_hit | apply H.loop_ret | apply H.loop_exit)
        | (apply H.in_miss; exact rfl)
        | (apply H.gyes; (iterate 3 exact rfl); (first | assumption | omega))
        | (apply H.gno; (iterate 3 exact rfl); (first | assumption | omega))
        | (apply H.cond_yes; exact rfl; (first | assumption | omega))
        | (apply H.cond_no; exact rfl; (first | assumption | omega))
        | ((first | apply H.gtrue); (iterate 3 exact rfl); assumption)
        | (apply H.gfalse; (iterate 3 exact rfl); assumption)
        | (apply H.cond_t; exact rfl; assumption)
        | (apply H.cond_f; exact rfl; assumption))
      refine H.index_slice rfl rfl rfl rfl hlt rfl ?_
      repeat (
        first
        | ((first | apply H.move | apply H.assign | apply H.nilCheck | apply H.len_slice); (iterate 3 exact rfl))
        | (apply H.fieldAddr; (iterate 3 exact rfl); exact inferInstance; exact rfl)
        | (apply H.load1; (iterate 3 exact rfl); apply Rd1.ofRow; (repeat (first | exact .here _ _ _ | apply At.there)); (iterate 2 exact rfl))
        | (first | apply H.seq | apply H.region | apply H.nil | apply H.then_normal)
        | ((first | apply H.cmp | apply H.build); (iterate 5 exact rfl))
        | ((first | (apply H.ar; (iterate 4 exact rfl)) | (apply H.conv_int; (iterate 2 exact rfl))); (first | (apply wr_i64_s1; omega) | (apply wr_i64_n1; omega) | (apply wr_i64_nn; omega) | (apply wr_i64; omega) | (apply wr_u64; omega) | (apply wr_u8; omega) | (apply wr_u16; omega) | rfl); exact rfl)
        | (apply H.pass; (iterate 2 exact rfl))
        | (apply H.pass0; exact rfl)
        | (apply H.pickT; (iterate 4 exact rfl))
        | ((first | apply H.pickF | apply H.extract | apply H.not); (iterate 4 exact rfl))
        | ((first | apply H.ptrNil | apply H.sliceNil); (iterate 5 exact rfl))
        | (apply H.store1; (iterate 4 exact rfl); (repeat (first | exact .here _ _ _ | apply At.there)); (repeat (first | exact .here _ _ _ | apply SetV.there)))
        | (apply H.cond_true; exact rfl)
        | (apply H.cond_false; exact rfl)
        | (first | apply H.skip | apply H.ret | apply H.then_ret | apply H.then_exit | apply H.exit | apply H.block | apply H.in_normal | apply H.in_ret | apply H.in_hit | apply H.loop_ret | apply H.loop_exit)
        | (apply H.in_miss; exact rfl)
        | (apply H.gyes; (iterate 3 exact rfl); (first | assumption | omega))
        | (apply H.gno; (iterate 3 exact rfl); (first | assumption | omega))
        | (apply H.cond_yes; exact rfl; (first | assumption | omega))
        | (apply H.cond_no; exact rfl; (first | assumption | omega))
        | ((first | apply H.gtrue); (iterate 3 exact rfl); assumption)
        | (apply H.gfalse; (iterate 3 exact rfl); assumption)
        | (apply H.cond_t; exact rfl; assumption)
        | (apply H.cond_f; exact rfl; assumption))
      refine H.load1 rfl rfl rfl (.of (rd _) rfl) rfl ?_
      repeat (
        first
        | ((first | apply H.move | apply H.assign | apply H.nilCheck | apply H.len_slice); (iterate 3 exact rfl))
        | (apply H.fieldAddr; (iterate 3 exact rfl); exact inferInstance; exact rfl)
        | (apply H.load1; (iterate 3 exact rfl); apply Rd1.ofRow; (repeat (first | exact .here _ _ _ | apply At.there)); (iterate 2 exact rfl))
        | (first | apply H.seq | apply H.region | apply H.nil | apply H.then_normal)
        | ((first | apply H.cmp | apply H.build); (iterate 5 exact rfl))
        | ((first | (apply H.ar; (iterate 4 exact rfl)) | (apply H.conv_int; (iterate 2 exact rfl))); (first | (apply wr_i64_s1; omega) | (apply wr_i64_n1; omega) | (apply wr_i64_nn; omega) | (apply wr_i64; omega) | (apply wr_u64; omega) | (apply wr_u8; omega) | (apply wr_u16; omega) | rfl); exact rfl)
        | (apply H.pass; (iterate 2 exact rfl))
        | (apply H.pass0; exact rfl)
        | (apply H.pickT; (iterate 4 exact rfl))
        | ((first | apply H.pickF | apply H.extract | apply H.not); (iterate 4 exact rfl))
        | ((first | apply H.ptrNil | apply H.sliceNil); (iterate 5 exact rfl))
        | (apply H.store1; (iterate 4 exact rfl); (repeat (first | exact .here _ _ _ | apply At.there)); (repeat (first | exact .here _ _ _ | apply SetV.there)))
        | (apply H.cond_true; exact rfl)
        | (apply H.cond_false; exact rfl)
        | (first | apply H.skip | apply H.ret | apply H.then_ret | apply H.then_exit | apply H.exit | apply H.block | apply H.in_normal | apply H.in_ret | apply H.in_hit | apply H.loop_ret | apply H.loop_exit)
        | (apply H.in_miss; exact rfl)
        | (apply H.gyes; (iterate 3 exact rfl); (first | assumption | omega))
        | (apply H.gno; (iterate 3 exact rfl); (first | assumption | omega))
        | (apply H.cond_yes; exact rfl; (first | assumption | omega))
        | (apply H.cond_no; exact rfl; (first | assumption | omega))
        | ((first | apply H.gtrue); (iterate 3 exact rfl); assumption)
        | (apply H.gfalse; (iterate 3 exact rfl); assumption)
        | (apply H.cond_t; exact rfl; assumption)
        | (apply H.cond_f; exact rfl; assumption))
      by_cases hlong : 1073741824 < x.l
      · repeat (
        first
        | ((first | apply H.move | apply H.assign | apply H.nilCheck | apply H.len_slice); (iterate 3 exact rfl))
        | (apply H.fieldAddr; (iterate 3 exact rfl); exact inferInstance; exact rfl)
        | (apply H.load1; (iterate 3 exact rfl); apply Rd1.ofRow; (repeat (first | exact .here _ _ _ | apply At.there)); (iterate 2 exact rfl))
        | (first | apply H.seq | apply H.region | apply H.nil | apply H.then_normal)
        | ((first | apply H.cmp | apply H.build); (iterate 5 exact rfl))
        | ((first | (apply H.ar; (iterate 4 exact rfl)) | (apply H.conv_int; (iterate 2 exact rfl))); (first | (apply wr_i64_s1; omega) | (apply wr_i64_n1; omega) | (apply wr_i64_nn; omega) | (apply wr_i64; omega) | (apply wr_u64; omega) | (apply wr_u8; omega) | (apply wr_u16; omega) | rfl); exact rfl)
        | (apply H.pass; (iterate 2 exact rfl))
        | (apply H.pass0; exact rfl)
        | (apply H.pickT; (iterate 4 exact rfl))
        | ((first | apply H.pickF | apply H.extract | apply H.not); (iterate 4 exact rfl))
        | ((first | apply H.ptrNil | apply H.sliceNil); (iterate 5 exact rfl))
        | (apply H.store1; (iterate 4 exact rfl); (repeat (first | exact .here _ _ _ | apply At.there)); (repeat (first | exact .here _ _ _ | apply SetV.there)))
        | (apply H.cond_true; exact rfl)
        | (apply H.cond_false; exact rfl)
        | (first | apply H.skip | apply H.ret | apply H.then_ret | apply H.then_exit | apply H.exit | apply H.block | apply H.in_normal | apply H.in_ret | apply H.in_hit | apply H.loop_ret | apply H.loop_exit)
        | (apply H.in_miss; exact rfl)
        | (apply H.gyes; (iterate 3 exact rfl); (first | assumption | omega))
        | (apply H.gno; (iterate 3 exact rfl); (first | assumption | omega))
        | (apply H.cond_yes; exact rfl; (first | assumption | omega))
        | (apply H.cond_no; exact rfl; (first | assumption | omega))
        | ((first | apply H.gtrue); (iterate 3 exact rfl); assumption)
        | (apply H.gfalse; (iterate 3 exact rfl); assumption)
        | (apply H.cond_t; exact rfl; assumption)
        | (apply H.cond_f; exact rfl; assumption))
        refine H.callR rfl rfl rfl (works_fn f _) ?_
        repeat (
          first
          | ((first | apply H.move | apply H.assign | apply H.nilCheck | apply H.len_slice); (iterate 3 exact rfl))
          | (apply H.fieldAddr; (iterate 3 exact rfl); exact inferInstance; exact rfl)
          | (apply H.load1; (iterate 3 exact rfl); apply Rd1.ofRow; (repeat (first | exact .here _ _ _ | apply At.there)); (iterate 2 exact rfl))
          | (first | apply H.seq | apply H.region | apply H.nil | apply H.then_normal)
          | ((first | apply H.cmp | apply H.build); (iterate 5 exact rfl))
          | ((first | (apply H.ar; (iterate 4 exact rfl)) | (apply H.conv_int; (iterate 2 exact rfl))); (first | (apply wr_i64_s1; omega) | (apply wr_i64_n1; omega) | (apply wr_i64_nn; omega) | (apply wr_i64; omega) | (apply wr_u64; omega) | (apply wr_u8; omega) | (apply wr_u16; omega) | rfl); exact rfl)
          | (apply H.pass; (iterate 2 exact rfl))
          | (apply H.pass0; exact rfl)
          | (apply H.pickT; (iterate 4 exact rfl))
          | ((first | apply H.pickF | apply H.extract | apply H.not); (iterate 4 exact rfl))
          | ((first | apply H.ptrNil | apply H.sliceNil); (iterate 5 exact rfl))
          | (apply H.store1; (iterate 4 exact rfl); (repeat (first | exact .here _ _ _ | apply At.there)); (repeat (first | exact .here _ _ _ | apply SetV.there)))
          | (apply H.cond_true; exact rfl)
          | (apply H.cond_false; exact rfl)
          | (first | apply H.skip | apply H.ret | apply H.then_ret | apply H.then_exit | apply H.exit | apply H.block | apply H.in_normal | apply H.in_ret | apply H.in_hit | apply H.loop_ret | apply H.loop_exit)
          | (apply H.in_miss; exact rfl)
          | (apply H.gyes; (iterate 3 exact rfl); (first | assumption | omega))
          | (apply H.gno; (iterate 3 exact rfl); (first | assumption | omega))
          | (apply H.cond_yes; exact rfl; (first | assumption | omega))
          | (apply H.cond_no; exact rfl; (first | assumption | omega))
          | ((first | apply H.gtrue); (iterate 3 exact rfl); assumption)
          | (apply H.gfalse; (iterate 3 exact rfl); assumption)
          | (apply H.cond_t; exact rfl; assumption)
          | (apply H.cond_f; exact rfl; assumption))
        refine H.drop (.here _ _) ?_
        exact H.ret1 rfl rfl (fun _ h => h) ⟨rfl, rfl, rfl⟩
      · have hw' := hw.next x (by omega)
        have hn' : (s.stepS x).init.length ≤ k + 1 := by have := s.stepS_len x; omega
        have hge := s.stepS_len_ge x
        have hgg := s.stepS_g x
        repeat (
          first
          | ((first | apply H.move | apply H.assign | apply H.nilCheck | apply H.len_slice); (iterate 3 exact rfl))
          | (apply H.fieldAddr; (iterate 3 exact rfl); exact inferInstance; exact rfl)
          | (apply H.load1; (iterate 3 exact rfl); apply Rd1.ofRow; (repeat (first | exact .here _ _ _ | apply At.there)); (iterate 2 exact rfl))
          | (first | apply H.seq | apply H.region | apply H.nil | apply H.then_normal)
          | ((first | apply H.cmp | apply H.build); (iterate 5 exact rfl))
          | ((first | (apply H.ar; (iterate 4 exact rfl)) | (apply H.conv_int; (iterate 2 exact rfl))); (first | (apply wr_i64_s1; omega) | (apply wr_i64_n1; omega) | (apply wr_i64_nn; omega) | (apply wr_i64; omega) | (apply wr_u64; omega) | (apply wr_u8; omega) | (apply wr_u16; omega) | rfl); exact rfl)
          | (apply H.pass; (iterate 2 exact rfl))
          | (apply H.pass0; exact rfl)
          | (apply H.pickT; (iterate 4 exact rfl))
          | ((first | apply H.pickF | apply H.extract | apply H.not); (iterate 4 exact rfl))
          | ((first | apply H.ptrNil | apply H.sliceNil); (iterate 5 exact rfl))
          | (apply H.store1; (iterate 4 exact rfl); (repeat (first | exact .here _ _ _ | apply At.there)); (repeat (first | exact .here _ _ _ | apply SetV.there)))
          | (apply H.cond_true; exact rfl)
          | (apply H.cond_false; exact rfl)
          | (first | apply H.skip | apply H.ret | apply H.then_ret | apply H.then_exit | apply H.exit | apply H.block | apply H.in_normal | apply H.in_ret | apply H.in_hit | apply H.loop_ret | apply H.loop_exit)
          | (apply H.in_miss; exact rfl)
          | (apply H.gyes; (iterate 3 exact rfl); (first | assumption | omega))
          | (apply H.gno; (iterate 3 exact rfl); (first | assumption | omega))
          | (apply H.cond_yes; exact rfl; (first | assumption | omega))
          | (apply H.cond_no; exact rfl; (first | assumption | omega))
          | ((first | apply H.gtrue); (iterate 3 exact rfl); assumption)
          | (apply H.gfalse; (iterate 3 exact rfl); assumption)
          | (apply H.cond_t; exact rfl; assumption)
          | (apply H.cond_f; exact rfl; assumption))
        refine H.callR rfl rfl rfl (greatest_fn f _ b s) ?_
        repeat (
          first
          | ((first | apply H.move | apply H.assign | apply H.nilCheck | apply H.len_slice); (iterate 3 exact rfl))
          | (apply H.fieldAddr; (iterate 3 exact rfl); exact inferInstance; exact rfl)
          | (apply H.load1; (iterate 3 exact rfl); apply Rd1.ofRow; (repeat (first | exact .here _ _ _ | apply At.there)); (iterate 2 exact rfl))
          | (first | apply H.seq | apply H.region | apply H.nil | apply H.then_normal)
          | ((first | apply H.cmp | apply H.build); (iterate 5 exact rfl))
          | ((first | (apply H.ar; (iterate 4 exact rfl)) | (apply H.conv_int; (iterate 2 exact rfl))); (first | (apply wr_i64_s1; omega) | (apply wr_i64_n1; omega) | (apply wr_i64_nn; omega) | (apply wr_i64; omega) | (apply wr_u64; omega) | (apply wr_u8; omega) | (apply wr_u16; omega) | rfl); exact rfl)
          | (apply H.pass; (iterate 2 exact rfl))
          | (apply H.pass0; exact rfl)
          | (apply H.pickT; (iterate 4 exact rfl))
          | ((first | apply H.pickF | apply H.extract | apply H.not); (iterate 4 exact rfl))
          | ((first | apply H.ptrNil | apply H.sliceNil); (iterate 5 exact rfl))
          | (apply H.store1; (iterate 4 exact rfl); (repeat (first | exact .here _ _ _ | apply At.there)); (repeat (first | exact .here _ _ _ | apply SetV.there)))
          | (apply H.cond_true; exact rfl)
          | (apply H.cond_false; exact rfl)
          | (first | apply H.skip | apply H.ret | apply H.then_ret | apply H.then_exit | apply H.exit | apply H.block | apply H.in_normal | apply H.in_ret | apply H.in_hit | apply H.loop_ret | apply H.loop_exit)
          | (apply H.in_miss; exact rfl)
          | (apply H.gyes; (iterate 3 exact rfl); (first | assumption | omega))
          | (apply H.gno; (iterate 3 exact rfl); (first | assumption | omega))
          | (apply H.cond_yes; exact rfl; (first | assumption | omega))
          | (apply H.cond_no; exact rfl; (first | assumption | omega))
          | ((first | apply H.gtrue); (iterate 3 exact rfl); assumption)
          | (apply H.gfalse; (iterate 3 exact rfl); assumption)
          | (apply H.cond_t; exact rfl; assumption)
          | (apply H.cond_f; exact rfl; assumption))
        refine H.callE2 rfl rfl rfl (entered_fn f _ b s (by omega)) fun wp wc => ?_
        refine H.slc_some (by repeat (first | exact .here _ _ _ | apply At.there)) (by omega) fun wb hp => ?_
        subst hp
        repeat (
          first
          | ((first | apply H.move | apply H.assign | apply H.nilCheck | apply H.len_slice); (iterate 3 exact rfl))
          | (apply H.fieldAddr; (iterate 3 exact rfl); exact inferInstance; exact rfl)
          | (apply H.load1; (iterate 3 exact rfl); apply Rd1.ofRow; (repeat (first | exact .here _ _ _ | apply At.there)); (iterate 2 exact rfl))
          | (first | apply H.seq | apply H.region | apply H.nil | apply H.then_normal)
          | ((first | apply H.cmp | apply H.build); (iterate 5 exact rfl))
          | ((first | (apply H.ar; (iterate 4 exact rfl)) | (apply H.conv_int; (iterate 2 exact rfl))); (first | (apply wr_i64_s1; omega) | (apply wr_i64_n1; omega) | (apply wr_i64_nn; omega) | (apply wr_i64; omega) | (apply wr_u64; omega) | (apply wr_u8; omega) | (apply wr_u16; omega) | rfl); exact rfl)
          | (apply H.pass; (iterate 2 exact rfl))
          | (apply H.pass0; exact rfl)
          | (apply H.pickT; (iterate 4 exact rfl))
          | ((first | apply H.pickF | apply H.extract | apply H.not); (iterate 4 exact rfl))
          | ((first | apply H.ptrNil | apply H.sliceNil); (iterate 5 exact rfl))
          | (apply H.store1; (iterate 4 exact rfl); (repeat (first | exact .here _ _ _ | apply At.there)); (repeat (first | exact .here _ _ _ | apply SetV.there)))
          | (apply H.cond_true; exact rfl)
          | (apply H.cond_false; exact rfl)
          | (first | apply H.skip | apply H.ret | apply H.then_ret | apply H.then_exit | apply H.exit | apply H.block | apply H.in_normal | apply H.in_ret | apply H.in_hit | apply H.loop_ret | apply H.loop_exit)
          | (apply H.in_miss; exact rfl)
          | (apply H.gyes; (iterate 3 exact rfl); (first | assumption | omega))
          | (apply H.gno; (iterate 3 exact rfl); (first | assumption | omega))
          | (apply H.cond_yes; exact rfl; (first | assumption | omega))
          | (apply H.cond_no; exact rfl; (first | assumption | omega))
          | ((first | apply H.gtrue); (iterate 3 exact rfl); assumption)
          | (apply H.gfalse; (iterate 3 exact rfl); assumption)
          | (apply H.cond_t; exact rfl; assumption)
          | (apply H.cond_f; exact rfl; assumption))
        refine H.slc0 3 1 ?_
        refine H.loop (ι := Nat × Option Addr × Nat) (fun i => [(8, .int .i64 (i.1 : Int)), (7, .slice i.2.1 i.1 i.2.2), (6, .slice (some ⟨wb, 0, none⟩) (s.init.length + 1) wc), (5, .int .u64 s.g), (4, .int .i64 (k : Int)), (0, .slice (some ⟨ab, off, none⟩) xs.length c), (3, .pointer (some ⟨b, 0, none⟩))]) (fun _ => f)
          (fun i => slc i.2.1 i.1 i.2.2 3 1 (longV (s.all.take i.1)) :: slc _ _ _ _ _ _ :: pastH b s :: F) (fun i => i.1 ≤ s.init.length + 1) (fun i => s.init.length + 1 - i.1) (0, none, 0) (by show 0 ≤ _; omega) ⟨rfl, rfl, rfl, rfl, rfl, rfl, rfl, trivial⟩ rfl rfl fun i hi => ?_
        obtain ⟨j, lp, lc⟩ := i
        have hj : j ≤ s.init.length + 1 := hi
        clear hi
        show H _ _ _ [(8, .int .i64 (j : Int)), (7, .slice lp j lc), _, _, _, _, _] _ (slc lp j lc _ 1 _ :: _) _
        repeat (
          first
          | ((first | apply H.move | apply H.assign | apply H.nilCheck | apply H.len_slice); (iterate 3 exact rfl))
          | (apply H.fieldAddr; (iterate 3 exact rfl); exact inferInstance; exact rfl)
          | (apply H.load1; (iterate 3 exact rfl); apply Rd1.ofRow; (repeat (first | exact .here _ _ _ | apply At.there)); (iterate 2 exact rfl))
          | (first | apply H.seq | apply H.region | apply H.nil | apply H.then_normal)
          | ((first | apply H.cmp | apply H.build); (iterate 5 exact rfl))
          | ((first | (apply H.ar; (iterate 4 exact rfl)) | (apply H.conv_int; (iterate 2 exact rfl))); (first | (apply wr_i64_s1; omega) | (apply wr_i64_n1; omega) | (apply wr_i64_nn; omega) | (apply wr_i64; omega) | (apply wr_u64; omega) | (apply wr_u8; omega) | (apply wr_u16; omega) | rfl); exact rfl)
          | (apply H.pass; (iterate 2 exact rfl))
          | (apply H.pass0; exact rfl)
          | (apply H.pickT; (iterate 4 exact rfl))
          | ((first | apply H.pickF | apply H.extract | apply H.not); (iterate 4 exact rfl))
          | ((first | apply H.ptrNil | apply H.sliceNil); (iterate 5 exact rfl))
          | (apply H.store1; (iterate 4 exact rfl); (repeat (first | exact .here _ _ _ | apply At.there)); (repeat (first | exact .here _ _ _ | apply SetV.there)))
          | (apply H.cond_true; exact rfl)
          | (apply H.cond_false; exact rfl)
          | (first | apply H.skip | apply H.ret | apply H.then_ret | apply H.then_exit | apply H.exit | apply H.block | apply H.in_normal | apply H.in_ret | apply H.in_hit | apply H.loop_ret | apply H.loop_exit)
          | (apply H.in_miss; exact rfl)
          | (apply H.gyes; (iterate 3 exact rfl); (first | assumption | omega))
          | (apply H.gno; (iterate 3 exact rfl); (first | assumption | omega))
          | (apply H.cond_yes; exact rfl; (first | assumption | omega))
          | (apply H.cond_no; exact rfl; (first | assumption | omega))
          | ((first | apply H.gtrue); (iterate 3 exact rfl); assumption)
          | (apply H.gfalse; (iterate 3 exact rfl); assumption)
          | (apply H.cond_t; exact rfl; assumption)
          | (apply H.cond_f; exact rfl; assumption))
        by_cases hlt2 : j < s.init.length + 1
        · obtain ⟨⟨w, m⟩, hq⟩ := get_all hlt2
          have g1 : (viewsV s.all)[j]? = some (.int .u64 w) := by simp [viewsV, hq]
          have hv := hw.voted_at hq
          repeat (
            first
            | ((first | apply H.move | apply H.assign | apply H.nilCheck | apply H.len_slice); (iterate 3 exact rfl))
            | (apply H.fieldAddr; (iterate 3 exact rfl); exact inferInstance; exact rfl)
            | (apply H.load1; (iterate 3 exact rfl); apply Rd1.ofRow; (repeat (first | exact .here _ _ _ | apply At.there)); (iterate 2 exact rfl))
            | (first | apply H.seq | apply H.region | apply H.nil | apply H.then_normal)
            | ((first | apply H.cmp | apply H.build); (iterate 5 exact rfl))
            | ((first | (apply H.ar; (iterate 4 exact rfl)) | (apply H.conv_int; (iterate 2 exact rfl))); (first | (apply wr_i64_s1; omega) | (apply wr_i64_n1; omega) | (apply wr_i64_nn; omega) | (apply wr_i64; omega) | (apply wr_u64; omega) | (apply wr_u8; omega) | (apply wr_u16; omega) | rfl); exact rfl)
            | (apply H.pass; (iterate 2 exact rfl))
            | (apply H.pass0; exact rfl)
            | (apply H.pickT; (iterate 4 exact rfl))
            | ((first | apply H.pickF | apply H.extract | apply H.not); (iterate 4 exact rfl))
            | ((first | apply H.ptrNil | apply H.sliceNil); (iterate 5 exact rfl))
            | (apply H.store1; (iterate 4 exact rfl); (repeat (first | exact .here _ _ _ | apply At.there)); (repeat (first | exact .here _ _ _ | apply SetV.there)))
            | (apply H.cond_true; exact rfl)
            | (apply H.cond_false; exact rfl)
            | (first | apply H.skip | apply H.ret | apply H.then_ret | apply H.then_exit | apply H.exit | apply H.block | apply H.in_normal | apply H.in_ret | apply H.in_hit | apply H.loop_ret | apply H.loop_exit)
            | (apply H.in_miss; exact rfl)
            | (apply H.gyes; (iterate 3 exact rfl); (first | assumption | omega))
            | (apply H.gno; (iterate 3 exact rfl); (first | assumption | omega))
            | (apply H.cond_yes; exact rfl; (first | assumption | omega))
            | (apply H.cond_no; exact rfl; (first | assumption | omega))
            | ((first | apply H.gtrue); (iterate 3 exact rfl); assumption)
            | (apply H.gfalse; (iterate 3 exact rfl); assumption)
            | (apply H.cond_t; exact rfl; assumption)
            | (apply H.cond_f; exact rfl; assumption))
          refine H.index1 rfl rfl rfl rfl hlt2 rfl ?_
          refine H.load1 rfl rfl rfl (.of (Rd.ofSlc (by repeat (first | exact .here _ _ _ | apply At.there)) (by omega)) g1) rfl ?_
          refine H.front (.there _ (.there _ (.here _ _))) ?_
          refine H.callR rfl rfl rfl (voted_some f _ hv) ?_
          repeat (
            first
            | ((first | apply H.move | apply H.assign | apply H.nilCheck | apply H.len_slice); (iterate 3 exact rfl))
            | (apply H.fieldAddr; (iterate 3 exact rfl); exact inferInstance; exact rfl)
            | (apply H.load1; (iterate 3 exact rfl); apply Rd1.ofRow; (repeat (first | exact .here _ _ _ | apply At.there)); (iterate 2 exact rfl))
            | (first | apply H.seq | apply H.region | apply H.nil | apply H.then_normal)
            | ((first | apply H.cmp | apply H.build); (iterate 5 exact rfl))
            | ((first | (apply H.ar; (iterate 4 exact rfl)) | (apply H.conv_int; (iterate 2 exact rfl))); (first | (apply wr_i64_s1; omega) | (apply wr_i64_n1; omega) | (apply wr_i64_nn; omega) | (apply wr_i64; omega) | (apply wr_u64; omega) | (apply wr_u8; omega) | (apply wr_u16; omega) | rfl); exact rfl)
            | (apply H.pass; (iterate 2 exact rfl))
            | (apply H.pass0; exact rfl)
            | (apply H.pickT; (iterate 4 exact rfl))
            | ((first | apply H.pickF | apply H.extract | apply H.not); (iterate 4 exact rfl))
            | ((first | apply H.ptrNil | apply H.sliceNil); (iterate 5 exact rfl))
            | (apply H.store1; (iterate 4 exact rfl); (repeat (first | exact .here _ _ _ | apply At.there)); (repeat (first | exact .here _ _ _ | apply SetV.there)))
            | (apply H.cond_true; exact rfl)
            | (apply H.cond_false; exact rfl)
            | (first | apply H.skip | apply H.ret | apply H.then_ret | apply H.then_exit | apply H.exit | apply H.block | apply H.in_normal | apply H.in_ret | apply H.in_hit | apply H.loop_ret | apply H.loop_exit)
            | (apply H.in_miss; exact rfl)
            | (apply H.gyes; (iterate 3 exact rfl); (first | assumption | omega))
            | (apply H.gno; (iterate 3 exact rfl); (first | assumption | omega))
            | (apply H.cond_yes; exact rfl; (first | assumption | omega))
            | (apply H.cond_no; exact rfl; (first | assumption | omega))
            | ((first | apply H.gtrue); (iterate 3 exact rfl); assumption)
            | (apply H.gfalse; (iterate 3 exact rfl); assumption)
            | (apply H.cond_t; exact rfl; assumption)
            | (apply H.cond_f; exact rfl; assumption))
          refine H.buildSlice rfl rfl rfl rfl (by decide) (by decide) rfl rfl fun tb => ?_
          refine H.append (m := 1) rfl rfl rfl rfl rfl (fun p' c' => (by repeat (first | exact .here _ _ _ | apply At.there))) (Src.slice (Rd.ofRow (by repeat (first | exact .here _ _ _ | apply At.there))) rfl) (allOne_mem rfl) rfl (by omega) (by omega) fun p' c' => ?_
          repeat (
            first
            | ((first | apply H.move | apply H.assign | apply H.nilCheck | apply H.len_slice); (iterate 3 exact rfl))
            | (apply H.fieldAddr; (iterate 3 exact rfl); exact inferInstance; exact rfl)
            | (apply H.load1; (iterate 3 exact rfl); apply Rd1.ofRow; (repeat (first | exact .here _ _ _ | apply At.there)); (iterate 2 exact rfl))
            | (first | apply H.seq | apply H.region | apply H.nil | apply H.then_normal)
            | ((first | apply H.cmp | apply H.build); (iterate 5 exact rfl))
            | ((first | (apply H.ar; (iterate 4 exact rfl)) | (apply H.conv_int; (iterate 2 exact rfl))); (first | (apply wr_i64_s1; omega) | (apply wr_i64_n1; omega) | (apply wr_i64_nn; omega) | (apply wr_i64; omega) | (apply wr_u64; omega) | (apply wr_u8; omega) | (apply wr_u16; omega) | rfl); exact rfl)
            | (apply H.pass; (iterate 2 exact rfl))
            | (apply H.pass0; exact rfl)
            | (apply H.pickT; (iterate 4 exact rfl))
            | ((first | apply H.pickF | apply H.extract | apply H.not); (iterate 4 exact rfl))
            | ((first | apply H.ptrNil | apply H.sliceNil); (iterate 5 exact rfl))
            | (apply H.store1; (iterate 4 exact rfl); (repeat (first | exact .here _ _ _ | apply At.there)); (repeat (first | exact .here _ _ _ | apply SetV.there)))
            | (apply H.cond_true; exact rfl)
            | (apply H.cond_false; exact rfl)
            | (first | apply H.skip | apply H.ret | apply H.then_ret | apply H.then_exit | apply H.exit | apply H.block | apply H.in_normal | apply H.in_ret | apply H.in_hit | apply H.loop_ret | apply H.loop_exit)
            | (apply H.in_miss; exact rfl)
            | (apply H.gyes; (iterate 3 exact rfl); (first | assumption | omega))
            | (apply H.gno; (iterate 3 exact rfl); (first | assumption | omega))
            | (apply H.cond_yes; exact rfl; (first | assumption | omega))
            | (apply H.cond_no; exact rfl; (first | assumption | omega))
            | ((first | apply H.gtrue); (iterate 3 exact rfl); assumption)
            | (apply H.gfalse; (iterate 3 exact rfl); assumption)
            | (apply H.cond_t; exact rfl; assumption)
            | (apply H.cond_f; exact rfl; assumption))
          refine H.drop (.here _ _) ?_
          refine H.front (.there _ (.there _ (.here _ _))) ?_
          refine H.front (.there _ (.there _ (.here _ _))) ?_
          have e : longV (s.all.take (j + 1)) = longV (s.all.take j) ++ [.int .i64 m] := by simp [longV, List.take_add_one, hq]
          exact H.again (j + 1, p', c') (by show j + 1 ≤ _; omega) (by show s.init.length + 1 - (j + 1) < s.init.length + 1 - j; omega) ⟨rfl, rfl, rfl, rfl, rfl, rfl, rfl, trivial⟩ rfl (by show _ = slc _ _ _ _ _ (longV (s.all.take (j + 1))) :: _; rw [e]; rfl)
        · have hje : j = s.init.length + 1 := by omega
          subst hje
          clear hlt2 hj
          rw [List.take_of_length_le (by rw [all_len]; omega)]
          repeat (
            first
            | ((first | apply H.move | apply H.assign | apply H.nilCheck | apply H.len_slice); (iterate 3 exact rfl))
            | (apply H.fieldAddr; (iterate 3 exact rfl); exact inferInstance; exact rfl)
            | (apply H.load1; (iterate 3 exact rfl); apply Rd1.ofRow; (repeat (first | exact .here _ _ _ | apply At.there)); (iterate 2 exact rfl))
            | (first | apply H.seq | apply H.region | apply H.nil | apply H.then_normal)
            | ((first | apply H.cmp | apply H.build); (iterate 5 exact rfl))
            | ((first | (apply H.ar; (iterate 4 exact rfl)) | (apply H.conv_int; (iterate 2 exact rfl))); (first | (apply wr_i64_s1; omega) | (apply wr_i64_n1; omega) | (apply wr_i64_nn; omega) | (apply wr_i64; omega) | (apply wr_u64; omega) | (apply wr_u8; omega) | (apply wr_u16; omega) | rfl); exact rfl)
            | (apply H.pass; (iterate 2 exact rfl))
            | (apply H.pass0; exact rfl)
            | (apply H.pickT; (iterate 4 exact rfl))
            | ((first | apply H.pickF | apply H.extract | apply H.not); (iterate 4 exact rfl))
            | ((first | apply H.ptrNil | apply H.sliceNil); (iterate 5 exact rfl))
            | (apply H.store1; (iterate 4 exact rfl); (repeat (first | exact .here _ _ _ | apply At.there)); (repeat (first | exact .here _ _ _ | apply SetV.there)))
            | (apply H.cond_true; exact rfl)
            | (apply H.cond_false; exact rfl)
            | (first | apply H.skip | apply H.ret | apply H.then_ret | apply H.then_exit | apply H.exit | apply H.block | apply H.in_normal | apply H.in_ret | apply H.in_hit | apply H.loop_ret | apply H.loop_exit)
            | (apply H.in_miss; exact rfl)
            | (apply H.gyes; (iterate 3 exact rfl); (first | assumption | omega))
            | (apply H.gno; (iterate 3 exact rfl); (first | assumption | omega))
            | (apply H.cond_yes; exact rfl; (first | assumption | omega))
            | (apply H.cond_no; exact rfl; (first | assumption | omega))
            | ((first | apply H.gtrue); (iterate 3 exact rfl); assumption)
            | (apply H.gfalse; (iterate 3 exact rfl); assumption)
            | (apply H.cond_t; exact rfl; assumption)
            | (apply H.cond_f; exact rfl; assumption))
          refine H.front (.there _ (.there _ (.here _ _))) ?_
          refine H.index_slice rfl rfl rfl rfl hlt rfl ?_
          repeat (
            first
            | ((first | apply H.move | apply H.assign | apply H.nilCheck | apply H.len_slice); (iterate 3 exact rfl))
            | (apply H.fieldAddr; (iterate 3 exact rfl); exact inferInstance; exact rfl)
            | (apply H.load1; (iterate 3 exact rfl); apply Rd1.ofRow; (repeat (first | exact .here _ _ _ | apply At.there)); (iterate 2 exact rfl))
            | (first | apply H.seq | apply H.region | apply H.nil | apply H.then_normal)
            | ((first | apply H.cmp | apply H.build); (iterate 5 exact rfl))
            | ((first | (apply H.ar; (iterate 4 exact rfl)) | (apply H.conv_int; (iterate 2 exact rfl))); (first | (apply wr_i64_s1; omega) | (apply wr_i64_n1; omega) | (apply wr_i64_nn; omega) | (apply wr_i64; omega) | (apply wr_u64; omega) | (apply wr_u8; omega) | (apply wr_u16; omega) | rfl); exact rfl)
            | (apply H.pass; (iterate 2 exact rfl))
            | (apply H.pass0; exact rfl)
            | (apply H.pickT; (iterate 4 exact rfl))
            | ((first | apply H.pickF | apply H.extract | apply H.not); (iterate 4 exact rfl))
            | ((first | apply H.ptrNil | apply H.sliceNil); (iterate 5 exact rfl))
            | (apply H.store1; (iterate 4 exact rfl); (repeat (first | exact .here _ _ _ | apply At.there)); (repeat (first | exact .here _ _ _ | apply SetV.there)))
            | (apply H.cond_true; exact rfl)
            | (apply H.cond_false; exact rfl)
            | (first | apply H.skip | apply H.ret | apply H.then_ret | apply H.then_exit | apply H.exit | apply H.block | apply H.in_normal | apply H.in_ret | apply H.in_hit | apply H.loop_ret | apply H.loop_exit)
            | (apply H.in_miss; exact rfl)
            | (apply H.gyes; (iterate 3 exact rfl); (first | assumption | omega))
            | (apply H.gno; (iterate 3 exact rfl); (first | assumption | omega))
            | (apply H.cond_yes; exact rfl; (first | assumption | omega))
            | (apply H.cond_no; exact rfl; (first | assumption | omega))
            | ((first | apply H.gtrue); (iterate 3 exact rfl); assumption)
            | (apply H.gfalse; (iterate 3 exact rfl); assumption)
            | (apply H.cond_t; exact rfl; assumption)
            | (apply H.cond_f; exact rfl; assumption))
          refine H.loadN (ls := x.vals) rfl rfl rfl (rd _) rfl rfl ?_
          refine H.callR rfl rfl rfl (does_fn f _ b s hw (by omega) (by omega) x hxo) ?_
          repeat (
            first
            | ((first | apply H.move | apply H.assign | apply H.nilCheck | apply H.len_slice); (iterate 3 exact rfl))
            | (apply H.fieldAddr; (iterate 3 exact rfl); exact inferInstance; exact rfl)
            | (apply H.load1; (iterate 3 exact rfl); apply Rd1.ofRow; (repeat (first | exact .here _ _ _ | apply At.there)); (iterate 2 exact rfl))
            | (first | apply H.seq | apply H.region | apply H.nil | apply H.then_normal)
            | ((first | apply H.cmp | apply H.build); (iterate 5 exact rfl))
            | ((first | (apply H.ar; (iterate 4 exact rfl)) | (apply H.conv_int; (iterate 2 exact rfl))); (first | (apply wr_i64_s1; omega) | (apply wr_i64_n1; omega) | (apply wr_i64_nn; omega) | (apply wr_i64; omega) | (apply wr_u64; omega) | (apply wr_u8; omega) | (apply wr_u16; omega) | rfl); exact rfl)
            | (apply H.pass; (iterate 2 exact rfl))
            | (apply H.pass0; exact rfl)
            | (apply H.pickT; (iterate 4 exact rfl))
            | ((first | apply H.pickF | apply H.extract | apply H.not); (iterate 4 exact rfl))
            | ((first | apply H.ptrNil | apply H.sliceNil); (iterate 5 exact rfl))
            | (apply H.store1; (iterate 4 exact rfl); (repeat (first | exact .here _ _ _ | apply At.there)); (repeat (first | exact .here _ _ _ | apply SetV.there)))
            | (apply H.cond_true; exact rfl)
            | (apply H.cond_false; exact rfl)
            | (first | apply H.skip | apply H.ret | apply H.then_ret | apply H.then_exit | apply H.exit | apply H.block | apply H.in_normal | apply H.in_ret | apply H.in_hit | apply H.loop_ret | apply H.loop_exit)
            | (apply H.in_miss; exact rfl)
            | (apply H.gyes; (iterate 3 exact rfl); (first | assumption | omega))
            | (apply H.gno; (iterate 3 exact rfl); (first | assumption | omega))
            | (apply H.cond_yes; exact rfl; (first | assumption | omega))
            | (apply H.cond_no; exact rfl; (first | assumption | omega))
            | ((first | apply H.gtrue); (iterate 3 exact rfl); assumption)
            | (apply H.gfalse; (iterate 3 exact rfl); assumption)
            | (apply H.cond_t; exact rfl; assumption)
            | (apply H.cond_f; exact rfl; assumption))
          refine H.callE2 rfl rfl rfl (entered_fn f _ b (s.stepS x) (by omega)) fun np nc => ?_
          refine H.slc_some (by repeat (first | exact .here _ _ _ | apply At.there)) (by omega) fun nb hp => ?_
          subst hp
          refine H.slc_some (.there _ (.there _ (.here _ _ _))) (by omega) fun lb hp => ?_
          subst hp
          (apply H.assign; (iterate 3 exact rfl))
          apply H.nil
          apply H.then_normal
          refine H.front (.there _ (.here _ _)) ?_
          (repeat apply H.seq)
          refine H.cut (ι := Unit) (fun _ => [(94, .bool false), (12, .slice (some ⟨nb, 0, none⟩) ((s.stepS x).init.length + 1) nc), (11, .bool (s.okS x)), (7, .slice (some ⟨lb, 0, none⟩) (s.init.length + 1) lc), (6, .slice (some ⟨wb, 0, none⟩) (s.init.length + 1) wc), (5, .int .u64 s.g), (4, .int .i64 (k : Int)), (0, .slice (some ⟨ab, off, none⟩) xs.length c), (3, .pointer (some ⟨b, 0, none⟩))]) (fun _ => f)
            (fun _ => pastH b (s.stepS x) :: slc (some ⟨nb, 0, none⟩) ((s.stepS x).init.length + 1) nc 23 1 (viewsV (s.stepS x).all) :: slc (some ⟨lb, 0, none⟩) (s.init.length + 1) lc 3 1 (longV s.all) :: slc (some ⟨wb, 0, none⟩) (s.init.length + 1) wc 23 1 (viewsV s.all) :: F) (fun _ => True) _ (fun _ _ => ?_) ?_
          · repeat (
            first
            | ((first | apply H.move | apply H.assign | apply H.nilCheck | apply H.len_slice); (iterate 3 exact rfl))
            | (apply H.fieldAddr; (iterate 3 exact rfl); exact inferInstance; exact rfl)
            | (apply H.load1; (iterate 3 exact rfl); apply Rd1.ofRow; (repeat (first | exact .here _ _ _ | apply At.there)); (iterate 2 exact rfl))
            | (first | apply H.seq | apply H.region | apply H.nil | apply H.then_normal)
            | ((first | apply H.cmp | apply H.build); (iterate 5 exact rfl))
            | ((first | (apply H.ar; (iterate 4 exact rfl)) | (apply H.conv_int; (iterate 2 exact rfl))); (first | (apply wr_i64_s1; omega) | (apply wr_i64_n1; omega) | (apply wr_i64_nn; omega) | (apply wr_i64; omega) | (apply wr_u64; omega) | (apply wr_u8; omega) | (apply wr_u16; omega) | rfl); exact rfl)
            | (apply H.pass; (iterate 2 exact rfl))
            | (apply H.pass0; exact rfl)
            | (apply H.pickT; (iterate 4 exact rfl))
            | ((first | apply H.pickF | apply H.extract | apply H.not); (iterate 4 exact rfl))
            | ((first | apply H.ptrNil | apply H.sliceNil); (iterate 5 exact rfl))
            | (apply H.store1; (iterate 4 exact rfl); (repeat (first | exact .here _ _ _ | apply At.there)); (repeat (first | exact .here _ _ _ | apply SetV.there)))
            | (apply H.cond_true; exact rfl)
            | (apply H.cond_false; exact rfl)
            | (first | apply H.skip | apply H.ret | apply H.then_ret | apply H.then_exit | apply H.exit | apply H.block | apply H.in_normal | apply H.in_ret | apply H.in_hit | apply H.loop_ret | apply H.loop_exit)
            | (apply H.in_miss; exact rfl)
            | (apply H.gyes; (iterate 3 exact rfl); (first | assumption | omega))
            | (apply H.gno; (iterate 3 exact rfl); (first | assumption | omega))
            | (apply H.cond_yes; exact rfl; (first | assumption | omega))
            | (apply H.cond_no; exact rfl; (first | assumption | omega))
            | ((first | apply H.gtrue); (iterate 3 exact rfl); assumption)
            | (apply H.gfalse; (iterate 3 exact rfl); assumption)
            | (apply H.cond_t; exact rfl; assumption)
            | (apply H.cond_f; exact rfl; assumption))
            refine H.loop (ι := Nat) (fun j => [(13, .int .i64 (j : Int)), (12, .slice (some ⟨nb, 0, none⟩) ((s.stepS x).init.length + 1) nc), (11, .bool (s.okS x)), (7, .slice (some ⟨lb, 0, none⟩) (s.init.length + 1) lc), (6, .slice (some ⟨wb, 0, none⟩) (s.init.length + 1) wc), (5, .int .u64 s.g), (4, .int .i64 (k : Int)), (0, .slice (some ⟨ab, off, none⟩) xs.length c), (3, .pointer (some ⟨b, 0, none⟩))]) (fun _ => f)
              (fun _ => pastH b (s.stepS x) :: slc _ _ _ _ _ _ :: slc _ _ _ _ _ _ :: slc _ _ _ _ _ _ :: F) (fun j => j ≤ s.init.length + 1) (fun j => s.init.length + 1 - j) 0 (by omega) ⟨rfl, rfl, rfl, rfl, rfl, rfl, rfl, rfl, rfl, trivial⟩ rfl rfl fun j hj3 => ?_
            repeat (
              first
              | ((first | apply H.move | apply H.assign | apply H.nilCheck | apply H.len_slice); (iterate 3 exact rfl))
              | (apply H.fieldAddr; (iterate 3 exact rfl); exact inferInstance; exact rfl)
              | (apply H.load1; (iterate 3 exact rfl); apply Rd1.ofRow; (repeat (first | exact .here _ _ _ | apply At.there)); (iterate 2 exact rfl))
              | (first | apply H.seq | apply H.region | apply H.nil | apply H.then_normal)
              | ((first | apply H.cmp | apply H.build); (iterate 5 exact rfl))
              | ((first | (apply H.ar; (iterate 4 exact rfl)) | (apply H.conv_int; (iterate 2 exact rfl))); (first | (apply wr_i64_s1; omega) | (apply wr_i64_n1; omega) | (apply wr_i64_nn; omega) | (apply wr_i64; omega) | (apply wr_u64; omega) | (apply wr_u8; omega) | (apply wr_u16; omega) | rfl); exact rfl)
              | (apply H.pass; (iterate 2 exact rfl))
              | (apply H.pass0; exact rfl)
              | (apply H.pickT; (iterate 4 exact rfl))
              | ((first | apply H.pickF | apply H.extract | apply H.not); (iterate 4 exact rfl))
              | ((first | apply H.ptrNil | apply H.sliceNil); (iterate 5 exact rfl))
              | (apply H.store1; (iterate 4 exact rfl); (repeat (first | exact .here _ _ _ | apply At.there)); (repeat (first | exact .here _ _ _ | apply SetV.there)))
              | (apply H.cond_true; exact rfl)
              | (apply H.cond_false; exact rfl)
              | (first | apply H.skip | apply H.ret | apply H.then_ret | apply H.then_exit | apply H.exit | apply H.block | apply H.in_normal | apply H.in_ret | apply H.in_hit | apply H.loop_ret | apply H.loop_exit)
              | (apply H.in_miss; exact rfl)
              | (apply H.gyes; (iterate 3 exact rfl); (first | assumption | omega))
              | (apply H.gno; (iterate 3 exact rfl); (first | assumption | omega))
              | (apply H.cond_yes; exact rfl; (first | assumption | omega))
              | (apply H.cond_no; exact rfl; (first | assumption | omega))
              | ((first | apply H.gtrue); (iterate 3 exact rfl); assumption)
              | (apply H.gfalse; (iterate 3 exact rfl); assumption)
              | (apply H.cond_t; exact rfl; assumption)
              | (apply H.cond_f; exact rfl; assumption))
            by_cases hlt3 : j < s.init.length + 1
            · obtain ⟨⟨w, m⟩, hq⟩ := get_all hlt3
              have g1 : (viewsV s.all)[j]? = some (.int .u64 w) := by simp [viewsV, hq]
              have g3 : (longV s.all)[j]? = some (.int .i64 m) := by simp [longV, hq]
              obtain ⟨m', hq', hmm', hne⟩ := s.stepS_all x hq
              have g2 : (viewsV (s.stepS x).all)[j]? = some (.int .u64 w) := by simp [viewsV, hq']
              have hv := hw'.voted_at hq'
              repeat (
                first
                | ((first | apply H.move | apply H.assign | apply H.nilCheck | apply H.len_slice); (iterate 3 exact rfl))
                | (apply H.fieldAddr; (iterate 3 exact rfl); exact inferInstance; exact rfl)
                | (apply H.load1; (iterate 3 exact rfl); apply Rd1.ofRow; (repeat (first | exact .here _ _ _ | apply At.there)); (iterate 2 exact rfl))
                | (first | apply H.seq | apply H.region | apply H.nil | apply H.then_normal)
                | ((first | apply H.cmp | apply H.build); (iterate 5 exact rfl))
                | ((first | (apply H.ar; (iterate 4 exact rfl)) | (apply H.conv_int; (iterate 2 exact rfl))); (first | (apply wr_i64_s1; omega) | (apply wr_i64_n1; omega) | (apply wr_i64_nn; omega) | (apply wr_i64; omega) | (apply wr_u64; omega) | (apply wr_u8; omega) | (apply wr_u16; omega) | rfl); exact rfl)
                | (apply H.pass; (iterate 2 exact rfl))
                | (apply H.pass0; exact rfl)
                | (apply H.pickT; (iterate 4 exact rfl))
                | ((first | apply H.pickF | apply H.extract | apply H.not); (iterate 4 exact rfl))
                | ((first | apply H.ptrNil | apply H.sliceNil); (iterate 5 exact rfl))
                | (apply H.store1; (iterate 4 exact rfl); (repeat (first | exact .here _ _ _ | apply At.there)); (repeat (first | exact .here _ _ _ | apply SetV.there)))
                | (apply H.cond_true; exact rfl)
                | (apply H.cond_false; exact rfl)
                | (first | apply H.skip | apply H.ret | apply H.then_ret | apply H.then_exit | apply H.exit | apply H.block | apply H.in_normal | apply H.in_ret | apply H.in_hit | apply H.loop_ret | apply H.loop_exit)
                | (apply H.in_miss; exact rfl)
                | (apply H.gyes; (iterate 3 exact rfl); (first | assumption | omega))
                | (apply H.gno; (iterate 3 exact rfl); (first | assumption | omega))
                | (apply H.cond_yes; exact rfl; (first | assumption | omega))
                | (apply H.cond_no; exact rfl; (first | assumption | omega))
                | ((first | apply H.gtrue); (iterate 3 exact rfl); assumption)
                | (apply H.gfalse; (iterate 3 exact rfl); assumption)
                | (apply H.cond_t; exact rfl; assumption)
                | (apply H.cond_f; exact rfl; assumption))
              refine H.index1 rfl rfl rfl rfl hlt3 rfl ?_
              refine H.load1 rfl rfl rfl (.of (Rd.ofSlc (by repeat (first | exact .here _ _ _ | apply At.there)) (by omega)) g1) rfl ?_
              refine H.callR rfl rfl rfl (voted_some f _ hv) ?_
              repeat (
                first
                | ((first | apply H.move | apply H.assign | apply H.nilCheck | apply H.len_slice); (iterate 3 exact rfl))
                | (apply H.fieldAddr; (iterate 3 exact rfl); exact inferInstance; exact rfl)
                | (apply H.load1; (iterate 3 exact rfl); apply Rd1.ofRow; (repeat (first | exact .here _ _ _ | apply At.there)); (iterate 2 exact rfl))
                | (first | apply H.seq | apply H.region | apply H.nil | apply H.then_normal)
                | ((first | apply H.cmp | apply H.build); (iterate 5 exact rfl))
                | ((first | (apply H.ar; (iterate 4 exact rfl)) | (apply H.conv_int; (iterate 2 exact rfl))); (first | (apply wr_i64_s1; omega) | (apply wr_i64_n1; omega) | (apply wr_i64_nn; omega) | (apply wr_i64; omega) | (apply wr_u64; omega) | (apply wr_u8; omega) | (apply wr_u16; omega) | rfl); exact rfl)
                | (apply H.pass; (iterate 2 exact rfl))
                | (apply H.pass0; exact rfl)
                | (apply H.pickT; (iterate 4 exact rfl))
                | ((first | apply H.pickF | apply H.extract | apply H.not); (iterate 4 exact rfl))
                | ((first | apply H.ptrNil | apply H.sliceNil); (iterate 5 exact rfl))
                | (apply H.store1; (iterate 4 exact rfl); (repeat (first | exact .here _ _ _ | apply At.there)); (repeat (first | exact .here _ _ _ | apply SetV.there)))
                | (apply H.cond_true; exact rfl)
                | (apply H.cond_false; exact rfl)
                | (first | apply H.skip | apply H.ret | apply H.then_ret | apply H.then_exit | apply H.exit | apply H.block | apply H.in_normal | apply H.in_ret | apply H.in_hit | apply H.loop_ret | apply H.loop_exit)
                | (apply H.in_miss; exact rfl)
                | (apply H.gyes; (iterate 3 exact rfl); (first | assumption | omega))
                | (apply H.gno; (iterate 3 exact rfl); (first | assumption | omega))
                | (apply H.cond_yes; exact rfl; (first | assumption | omega))
                | (apply H.cond_no; exact rfl; (first | assumption | omega))
                | ((first | apply H.gtrue); (iterate 3 exact rfl); assumption)
                | (apply H.gfalse; (iterate 3 exact rfl); assumption)
                | (apply H.cond_t; exact rfl; assumption)
                | (apply H.cond_f; exact rfl; assumption))
              have hwf := hw
              clear hw' hv
              by_cases hm : m' = m
              · clear hne
                by_cases hj0 : j = 0
                · skip
                  refine H.drawQ (by kernel_rfl) (by decide +kernel) (by first | exact blind_fn | exact blind_seq blind_fn | exact blind_seq (blind_seq blind_fn) | (repeat (first | exact blind_fn | refine blind_seq ?_ | refine blind_block ?_ | refine blind_loop ?_))) ?_
                  repeat (
                    first
                    | ((first | apply HQ.move | apply HQ.assign | apply HQ.nilCheck | apply HQ.len_slice); (iterate 3 exact rfl))
                    | (apply HQ.fieldAddr; (iterate 3 exact rfl); exact inferInstance; exact rfl)
                    | (apply HQ.load1; (iterate 3 exact rfl); apply Rd1.ofRow; (repeat (first | exact .here _ _ _ | apply At.there)); (iterate 2 exact rfl))
                    | ((first | apply HQ.done0 | apply HQ.done); exact rfl)
                    | ((first | apply HQ.cmp | apply HQ.build); (iterate 5 exact rfl))
                    | ((first | (apply HQ.ar; (iterate 4 exact rfl)) | (apply HQ.conv_int; (iterate 2 exact rfl))); (first | (apply wr_i64_s1; omega) | (apply wr_i64_n1; omega) | (apply wr_i64_nn; omega) | (apply wr_i64; omega) | (apply wr_u64; omega) | (apply wr_u8; omega) | (apply wr_u16; omega) | rfl); exact rfl)
                    | (apply HQ.pass; (iterate 2 exact rfl))
                    | (apply HQ.pickT; (iterate 4 exact rfl))
                    | ((first | apply HQ.pickF | apply HQ.extract | apply HQ.not); (iterate 4 exact rfl))
                    | ((first | apply HQ.ptrNil | apply HQ.sliceNil); (iterate 5 exact rfl))
                    | (apply HQ.gyes; (iterate 3 exact rfl); (first | assumption | omega))
                    | (apply HQ.gno; (iterate 3 exact rfl); (first | assumption | omega))
                    | (apply HQ.gtrue; (iterate 3 exact rfl); assumption)
                    | (apply HQ.gfalse; (iterate 3 exact rfl); assumption))
                  refine HQ.index1 rfl rfl rfl rfl (by omega) rfl ?_
                  refine HQ.load1 rfl rfl rfl (.of (Rd.ofSlc (by repeat (first | exact .here _ _ _ | apply At.there)) (by omega)) g2) rfl ?_
                  repeat (
                    first
                    | ((first | apply HQ.move | apply HQ.assign | apply HQ.nilCheck | apply HQ.len_slice); (iterate 3 exact rfl))
                    | (apply HQ.fieldAddr; (iterate 3 exact rfl); exact inferInstance; exact rfl)
                    | (apply HQ.load1; (iterate 3 exact rfl); apply Rd1.ofRow; (repeat (first | exact .here _ _ _ | apply At.there)); (iterate 2 exact rfl))
                    | ((first | apply HQ.done0 | apply HQ.done); exact rfl)
                    | ((first | apply HQ.cmp | apply HQ.build); (iterate 5 exact rfl))
                    | ((first | (apply HQ.ar; (iterate 4 exact rfl)) | (apply HQ.conv_int; (iterate 2 exact rfl))); (first | (apply wr_i64_s1; omega) | (apply wr_i64_n1; omega) | (apply wr_i64_nn; omega) | (apply wr_i64; omega) | (apply wr_u64; omega) | (apply wr_u8; omega) | (apply wr_u16; omega) | rfl); exact rfl)
                    | (apply HQ.pass; (iterate 2 exact rfl))
                    | (apply HQ.pickT; (iterate 4 exact rfl))
                    | ((first | apply HQ.pickF | apply HQ.extract | apply HQ.not); (iterate 4 exact rfl))
                    | ((first | apply HQ.ptrNil | apply HQ.sliceNil); (iterate 5 exact rfl))
                    | (apply HQ.gyes; (iterate 3 exact rfl); (first | assumption | omega))
                    | (apply HQ.gno; (iterate 3 exact rfl); (first | assumption | omega))
                    | (apply HQ.gtrue; (iterate 3 exact rfl); assumption)
                    | (apply HQ.gfalse; (iterate 3 exact rfl); assumption))
                  refine HQ.index1 rfl rfl rfl rfl hlt3 rfl ?_
                  refine HQ.load1 rfl rfl rfl (.of (Rd.ofSlc (by repeat (first | exact .here _ _ _ | apply At.there)) (by omega)) g1) rfl ?_
                  repeat (
                    first
                    | ((first | apply HQ.move | apply HQ.assign | apply HQ.nilCheck | apply HQ.len_slice); (iterate 3 exact rfl))
                    | (apply HQ.fieldAddr; (iterate 3 exact rfl); exact inferInstance; exact rfl)
                    | (apply HQ.load1; (iterate 3 exact rfl); apply Rd1.ofRow; (repeat (first | exact .here _ _ _ | apply At.there)); (iterate 2 exact rfl))
                    | ((first | apply HQ.done0 | apply HQ.done); exact rfl)
                    | ((first | apply HQ.cmp | apply HQ.build); (iterate 5 exact rfl))
                    | ((first | (apply HQ.ar; (iterate 4 exact rfl)) | (apply HQ.conv_int; (iterate 2 exact rfl))); (first | (apply wr_i64_s1; omega) | (apply wr_i64_n1; omega) | (apply wr_i64_nn; omega) | (apply wr_i64; omega) | (apply wr_u64; omega) | (apply wr_u8; omega) | (apply wr_u16; omega) | rfl); exact rfl)
                    | (apply HQ.pass; (iterate 2 exact rfl))
                    | (apply HQ.pickT; (iterate 4 exact rfl))
                    | ((first | apply HQ.pickF | apply HQ.extract | apply HQ.not); (iterate 4 exact rfl))
                    | ((first | apply HQ.ptrNil | apply HQ.sliceNil); (iterate 5 exact rfl))
                    | (apply HQ.gyes; (iterate 3 exact rfl); (first | assumption | omega))
                    | (apply HQ.gno; (iterate 3 exact rfl); (first | assumption | omega))
                    | (apply HQ.gtrue; (iterate 3 exact rfl); assumption)
                    | (apply HQ.gfalse; (iterate 3 exact rfl); assumption))
                  refine HQ.index1 rfl rfl rfl rfl hlt3 rfl ?_
                  refine HQ.load1 rfl rfl rfl (.of (Rd.ofSlc (by repeat (first | exact .here _ _ _ | apply At.there)) (by omega)) g3) rfl ?_
                  repeat (
                    first
                    | ((first | apply HQ.move | apply HQ.assign | apply HQ.nilCheck | apply HQ.len_slice); (iterate 3 exact rfl))
                    | (apply HQ.fieldAddr; (iterate 3 exact rfl); exact inferInstance; exact rfl)
                    | (apply HQ.load1; (iterate 3 exact rfl); apply Rd1.ofRow; (repeat (first | exact .here _ _ _ | apply At.there)); (iterate 2 exact rfl))
                    | ((first | apply HQ.done0 | apply HQ.done); exact rfl)
                    | ((first | apply HQ.cmp | apply HQ.build); (iterate 5 exact rfl))
                    | ((first | (apply HQ.ar; (iterate 4 exact rfl)) | (apply HQ.conv_int; (iterate 2 exact rfl))); (first | (apply wr_i64_s1; omega) | (apply wr_i64_n1; omega) | (apply wr_i64_nn; omega) | (apply wr_i64; omega) | (apply wr_u64; omega) | (apply wr_u8; omega) | (apply wr_u16; omega) | rfl); exact rfl)
                    | (apply HQ.pass; (iterate 2 exact rfl))
                    | (apply HQ.pickT; (iterate 4 exact rfl))
                    | ((first | apply HQ.pickF | apply HQ.extract | apply HQ.not); (iterate 4 exact rfl))
                    | ((first | apply HQ.ptrNil | apply HQ.sliceNil); (iterate 5 exact rfl))
                    | (apply HQ.gyes; (iterate 3 exact rfl); (first | assumption | omega))
                    | (apply HQ.gno; (iterate 3 exact rfl); (first | assumption | omega))
                    | (apply HQ.gtrue; (iterate 3 exact rfl); assumption)
                    | (apply HQ.gfalse; (iterate 3 exact rfl); assumption))
                  refine HQ.index1 rfl rfl rfl rfl hlt3 rfl ?_
                  refine HQ.load1 rfl rfl rfl (.of (Rd.ofSlc (by repeat (first | exact .here _ _ _ | apply At.there)) (by omega)) g3) rfl ?_
                  repeat (
                    first
                    | ((first | apply HQ.move | apply HQ.assign | apply HQ.nilCheck | apply HQ.len_slice); (iterate 3 exact rfl))
                    | (apply HQ.fieldAddr; (iterate 3 exact rfl); exact inferInstance; exact rfl)
                    | (apply HQ.load1; (iterate 3 exact rfl); apply Rd1.ofRow; (repeat (first | exact .here _ _ _ | apply At.there)); (iterate 2 exact rfl))
                    | ((first | apply HQ.done0 | apply HQ.done); exact rfl)
                    | ((first | apply HQ.cmp | apply HQ.build); (iterate 5 exact rfl))
                    | ((first | (apply HQ.ar; (iterate 4 exact rfl)) | (apply HQ.conv_int; (iterate 2 exact rfl))); (first | (apply wr_i64_s1; omega) | (apply wr_i64_n1; omega) | (apply wr_i64_nn; omega) | (apply wr_i64; omega) | (apply wr_u64; omega) | (apply wr_u8; omega) | (apply wr_u16; omega) | rfl); exact rfl)
                    | (apply HQ.pass; (iterate 2 exact rfl))
                    | (apply HQ.pickT; (iterate 4 exact rfl))
                    | ((first | apply HQ.pickF | apply HQ.extract | apply HQ.not); (iterate 4 exact rfl))
                    | ((first | apply HQ.ptrNil | apply HQ.sliceNil); (iterate 5 exact rfl))
                    | (apply HQ.gyes; (iterate 3 exact rfl); (first | assumption | omega))
                    | (apply HQ.gno; (iterate 3 exact rfl); (first | assumption | omega))
                    | (apply HQ.gtrue; (iterate 3 exact rfl); assumption)
                    | (apply HQ.gfalse; (iterate 3 exact rfl); assumption))
                  repeat (
                    first
                    | ((first | apply H.move | apply H.assign | apply H.nilCheck | apply H.len_slice); (iterate 3 exact rfl))
                    | (apply H.fieldAddr; (iterate 3 exact rfl); exact inferInstance; exact rfl)
                    | (apply H.load1; (iterate 3 exact rfl); apply Rd1.ofRow; (repeat (first | exact .here _ _ _ | apply At.there)); (iterate 2 exact rfl))
                    | (first | apply H.seq | apply H.region | apply H.nil | apply H.then_normal)
                    | ((first | apply H.cmp | apply H.build); (iterate 5 exact rfl))
                    | ((first | (apply H.ar; (iterate 4 exact rfl)) | (apply H.conv_int; (iterate 2 exact rfl))); (first | (apply wr_i64_s1; omega) | (apply wr_i64_n1; omega) | (apply wr_i64_nn; omega) | (apply wr_i64; omega) | (apply wr_u64; omega) | (apply wr_u8; omega) | (apply wr_u16; omega) | rfl); exact rfl)
                    | (apply H.pass; (iterate 2 exact rfl))
                    | (apply H.pass0; exact rfl)
                    | (apply H.pickT; (iterate 4 exact rfl))
                    | ((first | apply H.pickF | apply H.extract | apply H.not); (iterate 4 exact rfl))
                    | ((first | apply H.ptrNil | apply H.sliceNil); (iterate 5 exact rfl))
                    | (apply H.store1; (iterate 4 exact rfl); (repeat (first | exact .here _ _ _ | apply At.there)); (repeat (first | exact .here _ _ _ | apply SetV.there)))
                    | (apply H.cond_true; exact rfl)
                    | (apply H.cond_false; exact rfl)
                    | (first | apply H.skip | apply H.ret | apply H.then_ret | apply H.then_exit | apply H.exit | apply H.block | apply H.in_normal | apply H.in_ret | apply H.in_hit | apply H.loop_ret | apply H.loop_exit)
                    | (apply H.in_miss; exact rfl)
                    | (apply H.gyes; (iterate 3 exact rfl); (first | assumption | omega))
                    | (apply H.gno; (iterate 3 exact rfl); (first | assumption | omega))
                    | (apply H.cond_yes; exact rfl; (first | assumption | omega))
                    | (apply H.cond_no; exact rfl; (first | assumption | omega))
                    | ((first | apply H.gtrue); (iterate 3 exact rfl); assumption)
                    | (apply H.gfalse; (iterate 3 exact rfl); assumption)
                    | (apply H.cond_t; exact rfl; assumption)
                    | (apply H.cond_f; exact rfl; assumption))
                  exact H.again (j + 1) (by show j + 1 ≤ _; omega) (by show s.init.length + 1 - (j + 1) < s.init.length + 1 - j; omega) ⟨rfl, rfl, rfl, rfl, rfl, rfl, rfl, rfl, rfl, trivial⟩ rfl rfl
                · obtain ⟨⟨w0, m0⟩, hq0⟩ := get_all (s := s) (j := j - 1) (by omega)
                  have g4 : (viewsV s.all)[j - 1]? = some (.int .u64 w0) := by simp [viewsV, hq0]
                  have hlt0 : w0 < w := by
                    have e1 : j - 1 + 1 = j := by omega
                    exact hwf.rises hq0 (by rw [e1]; exact hq)
                  skip
                  refine H.drawQ (by kernel_rfl) (by decide +kernel) (by first | exact blind_fn | exact blind_seq blind_fn | exact blind_seq (blind_seq blind_fn) | (repeat (first | exact blind_fn | refine blind_seq ?_ | refine blind_block ?_ | refine blind_loop ?_))) ?_
                  repeat (
                    first
                    | ((first | apply HQ.move | apply HQ.assign | apply HQ.nilCheck | apply HQ.len_slice); (iterate 3 exact rfl))
                    | (apply HQ.fieldAddr; (iterate 3 exact rfl); exact inferInstance; exact rfl)
                    | (apply HQ.load1; (iterate 3 exact rfl); apply Rd1.ofRow; (repeat (first | exact .here _ _ _ | apply At.there)); (iterate 2 exact rfl))
                    | ((first | apply HQ.done0 | apply HQ.done); exact rfl)
                    | ((first | apply HQ.cmp | apply HQ.build); (iterate 5 exact rfl))
                    | ((first | (apply HQ.ar; (iterate 4 exact rfl)) | (apply HQ.conv_int; (iterate 2 exact rfl))); (first | (apply wr_i64_s1; omega) | (apply wr_i64_n1; omega) | (apply wr_i64_nn; omega) | (apply wr_i64; omega) | (apply wr_u64; omega) | (apply wr_u8; omega) | (apply wr_u16; omega) | rfl); exact rfl)
                    | (apply HQ.pass; (iterate 2 exact rfl))
                    | (apply HQ.pickT; (iterate 4 exact rfl))
                    | ((first | apply HQ.pickF | apply HQ.extract | apply HQ.not); (iterate 4 exact rfl))
                    | ((first | apply HQ.ptrNil | apply HQ.sliceNil); (iterate 5 exact rfl))
                    | (apply HQ.gyes; (iterate 3 exact rfl); (first | assumption | omega))
                    | (apply HQ.gno; (iterate 3 exact rfl); (first | assumption | omega))
                    | (apply HQ.gtrue; (iterate 3 exact rfl); assumption)
                    | (apply HQ.gfalse; (iterate 3 exact rfl); assumption))
                  refine HQ.index1 rfl rfl rfl rfl (by omega) rfl ?_
                  refine HQ.load1 rfl rfl rfl (.of (Rd.ofSlc (by repeat (first | exact .here _ _ _ | apply At.there)) (by omega)) g2) rfl ?_
                  repeat (
                    first
                    | ((first | apply HQ.move | apply HQ.assign | apply HQ.nilCheck | apply HQ.len_slice); (iterate 3 exact rfl))
                    | (apply HQ.fieldAddr; (iterate 3 exact rfl); exact inferInstance; exact rfl)
                    | (apply HQ.load1; (iterate 3 exact rfl); apply Rd1.ofRow; (repeat (first | exact .here _ _ _ | apply At.there)); (iterate 2 exact rfl))
                    | ((first | apply HQ.done0 | apply HQ.done); exact rfl)
                    | ((first | apply HQ.cmp | apply HQ.build); (iterate 5 exact rfl))
                    | ((first | (apply HQ.ar; (iterate 4 exact rfl)) | (apply HQ.conv_int; (iterate 2 exact rfl))); (first | (apply wr_i64_s1; omega) | (apply wr_i64_n1; omega) | (apply wr_i64_nn; omega) | (apply wr_i64; omega) | (apply wr_u64; omega) | (apply wr_u8; omega) | (apply wr_u16; omega) | rfl); exact rfl)
                    | (apply HQ.pass; (iterate 2 exact rfl))
                    | (apply HQ.pickT; (iterate 4 exact rfl))
                    | ((first | apply HQ.pickF | apply HQ.extract | apply HQ.not); (iterate 4 exact rfl))
                    | ((first | apply HQ.ptrNil | apply HQ.sliceNil); (iterate 5 exact rfl))
                    | (apply HQ.gyes; (iterate 3 exact rfl); (first | assumption | omega))
                    | (apply HQ.gno; (iterate 3 exact rfl); (first | assumption | omega))
                    | (apply HQ.gtrue; (iterate 3 exact rfl); assumption)
                    | (apply HQ.gfalse; (iterate 3 exact rfl); assumption))
                  refine HQ.index1 rfl rfl rfl rfl hlt3 rfl ?_
                  refine HQ.load1 rfl rfl rfl (.of (Rd.ofSlc (by repeat (first | exact .here _ _ _ | apply At.there)) (by omega)) g1) rfl ?_
                  repeat (
                    first
                    | ((first | apply HQ.move | apply HQ.assign | apply HQ.nilCheck | apply HQ.len_slice); (iterate 3 exact rfl))
                    | (apply HQ.fieldAddr; (iterate 3 exact rfl); exact inferInstance; exact rfl)
                    | (apply HQ.load1; (iterate 3 exact rfl); apply Rd1.ofRow; (repeat (first | exact .here _ _ _ | apply At.there)); (iterate 2 exact rfl))
                    | ((first | apply HQ.done0 | apply HQ.done); exact rfl)
                    | ((first | apply HQ.cmp | apply HQ.build); (iterate 5 exact rfl))
                    | ((first | (apply HQ.ar; (iterate 4 exact rfl)) | (apply HQ.conv_int; (iterate 2 exact rfl))); (first | (apply wr_i64_s1; omega) | (apply wr_i64_n1; omega) | (apply wr_i64_nn; omega) | (apply wr_i64; omega) | (apply wr_u64; omega) | (apply wr_u8; omega) | (apply wr_u16; omega) | rfl); exact rfl)
                    | (apply HQ.pass; (iterate 2 exact rfl))
                    | (apply HQ.pickT; (iterate 4 exact rfl))
                    | ((first | apply HQ.pickF | apply HQ.extract | apply HQ.not); (iterate 4 exact rfl))
                    | ((first | apply HQ.ptrNil | apply HQ.sliceNil); (iterate 5 exact rfl))
                    | (apply HQ.gyes; (iterate 3 exact rfl); (first | assumption | omega))
                    | (apply HQ.gno; (iterate 3 exact rfl); (first | assumption | omega))
                    | (apply HQ.gtrue; (iterate 3 exact rfl); assumption)
                    | (apply HQ.gfalse; (iterate 3 exact rfl); assumption))
                  refine HQ.index1 rfl rfl rfl rfl hlt3 rfl ?_
                  refine HQ.load1 rfl rfl rfl (.of (Rd.ofSlc (by repeat (first | exact .here _ _ _ | apply At.there)) (by omega)) g3) rfl ?_
                  repeat (
                    first
                    | ((first | apply HQ.move | apply HQ.assign | apply HQ.nilCheck | apply HQ.len_slice); (iterate 3 exact rfl))
                    | (apply HQ.fieldAddr; (iterate 3 exact rfl); exact inferInstance; exact rfl)
                    | (apply HQ.load1; (iterate 3 exact rfl); apply Rd1.ofRow; (repeat (first | exact .here _ _ _ | apply At.there)); (iterate 2 exact rfl))
                    | ((first | apply HQ.done0 | apply HQ.done); exact rfl)
                    | ((first | apply HQ.cmp | apply HQ.build); (iterate 5 exact rfl))
                    | ((first | (apply HQ.ar; (iterate 4 exact rfl)) | (apply HQ.conv_int; (iterate 2 exact rfl))); (first | (apply wr_i64_s1; omega) | (apply wr_i64_n1; omega) | (apply wr_i64_nn; omega) | (apply wr_i64; omega) | (apply wr_u64; omega) | (apply wr_u8; omega) | (apply wr_u16; omega) | rfl); exact rfl)
                    | (apply HQ.pass; (iterate 2 exact rfl))
                    | (apply HQ.pickT; (iterate 4 exact rfl))
                    | ((first | apply HQ.pickF | apply HQ.extract | apply HQ.not); (iterate 4 exact rfl))
                    | ((first | apply HQ.ptrNil | apply HQ.sliceNil); (iterate 5 exact rfl))
                    | (apply HQ.gyes; (iterate 3 exact rfl); (first | assumption | omega))
                    | (apply HQ.gno; (iterate 3 exact rfl); (first | assumption | omega))
                    | (apply HQ.gtrue; (iterate 3 exact rfl); assumption)
                    | (apply HQ.gfalse; (iterate 3 exact rfl); assumption))
                  refine HQ.index1 rfl rfl rfl rfl hlt3 rfl ?_
                  refine HQ.load1 rfl rfl rfl (.of (Rd.ofSlc (by repeat (first | exact .here _ _ _ | apply At.there)) (by omega)) g3) rfl ?_
                  repeat (
                    first
                    | ((first | apply HQ.move | apply HQ.assign | apply HQ.nilCheck | apply HQ.len_slice); (iterate 3 exact rfl))
                    | (apply HQ.fieldAddr; (iterate 3 exact rfl); exact inferInstance; exact rfl)
                    | (apply HQ.load1; (iterate 3 exact rfl); apply Rd1.ofRow; (repeat (first | exact .here _ _ _ | apply At.there)); (iterate 2 exact rfl))
                    | ((first | apply HQ.done0 | apply HQ.done); exact rfl)
                    | ((first | apply HQ.cmp | apply HQ.build); (iterate 5 exact rfl))
                    | ((first | (apply HQ.ar; (iterate 4 exact rfl)) | (apply HQ.conv_int; (iterate 2 exact rfl))); (first | (apply wr_i64_s1; omega) | (apply wr_i64_n1; omega) | (apply wr_i64_nn; omega) | (apply wr_i64; omega) | (apply wr_u64; omega) | (apply wr_u8; omega) | (apply wr_u16; omega) | rfl); exact rfl)
                    | (apply HQ.pass; (iterate 2 exact rfl))
                    | (apply HQ.pickT; (iterate 4 exact rfl))
                    | ((first | apply HQ.pickF | apply HQ.extract | apply HQ.not); (iterate 4 exact rfl))
                    | ((first | apply HQ.ptrNil | apply HQ.sliceNil); (iterate 5 exact rfl))
                    | (apply HQ.gyes; (iterate 3 exact rfl); (first | assumption | omega))
                    | (apply HQ.gno; (iterate 3 exact rfl); (first | assumption | omega))
                    | (apply HQ.gtrue; (iterate 3 exact rfl); assumption)
                    | (apply HQ.gfalse; (iterate 3 exact rfl); assumption))
                  refine HQ.index1 (i := j - 1) rfl rfl rfl (by omega) (by omega) rfl ?_
                  refine HQ.load1 rfl rfl rfl (.of (Rd.ofSlc (by repeat (first | exact .here _ _ _ | apply At.there)) (by omega)) g4) rfl ?_
                  repeat (
                    first
                    | ((first | apply HQ.move | apply HQ.assign | apply HQ.nilCheck | apply HQ.len_slice); (iterate 3 exact rfl))
                    | (apply HQ.fieldAddr; (iterate 3 exact rfl); exact inferInstance; exact rfl)
                    | (apply HQ.load1; (iterate 3 exact rfl); apply Rd1.ofRow; (repeat (first | exact .here _ _ _ | apply At.there)); (iterate 2 exact rfl))
                    | ((first | apply HQ.done0 | apply HQ.done); exact rfl)
                    | ((first | apply HQ.cmp | apply HQ.build); (iterate 5 exact rfl))
                    | ((first | (apply HQ.ar; (iterate 4 exact rfl)) | (apply HQ.conv_int; (iterate 2 exact rfl))); (first | (apply wr_i64_s1; omega) | (apply wr_i64_n1; omega) | (apply wr_i64_nn; omega) | (apply wr_i64; omega) | (apply wr_u64; omega) | (apply wr_u8; omega) | (apply wr_u16; omega) | rfl); exact rfl)
                    | (apply HQ.pass; (iterate 2 exact rfl))
                    | (apply HQ.pickT; (iterate 4 exact rfl))
                    | ((first | apply HQ.pickF | apply HQ.extract | apply HQ.not); (iterate 4 exact rfl))
                    | ((first | apply HQ.ptrNil | apply HQ.sliceNil); (iterate 5 exact rfl))
                    | (apply HQ.gyes; (iterate 3 exact rfl); (first | assumption | omega))
                    | (apply HQ.gno; (iterate 3 exact rfl); (first | assumption | omega))
                    | (apply HQ.gtrue; (iterate 3 exact rfl); assumption)
                    | (apply HQ.gfalse; (iterate 3 exact rfl); assumption))
                  refine HQ.index1 rfl rfl rfl rfl hlt3 rfl ?_
                  refine HQ.load1 rfl rfl rfl (.of (Rd.ofSlc (by repeat (first | exact .here _ _ _ | apply At.there)) (by omega)) g1) rfl ?_
                  repeat (
                    first
                    | ((first | apply HQ.move | apply HQ.assign | apply HQ.nilCheck | apply HQ.len_slice); (iterate 3 exact rfl))
                    | (apply HQ.fieldAddr; (iterate 3 exact rfl); exact inferInstance; exact rfl)
                    | (apply HQ.load1; (iterate 3 exact rfl); apply Rd1.ofRow; (repeat (first | exact .here _ _ _ | apply At.there)); (iterate 2 exact rfl))
                    | ((first | apply HQ.done0 | apply HQ.done); exact rfl)
                    | ((first | apply HQ.cmp | apply HQ.build); (iterate 5 exact rfl))
                    | ((first | (apply HQ.ar; (iterate 4 exact rfl)) | (apply HQ.conv_int; (iterate 2 exact rfl))); (first | (apply wr_i64_s1; omega) | (apply wr_i64_n1; omega) | (apply wr_i64_nn; omega) | (apply wr_i64; omega) | (apply wr_u64; omega) | (apply wr_u8; omega) | (apply wr_u16; omega) | rfl); exact rfl)
                    | (apply HQ.pass; (iterate 2 exact rfl))
                    | (apply HQ.pickT; (iterate 4 exact rfl))
                    | ((first | apply HQ.pickF | apply HQ.extract | apply HQ.not); (iterate 4 exact rfl))
                    | ((first | apply HQ.ptrNil | apply HQ.sliceNil); (iterate 5 exact rfl))
                    | (apply HQ.gyes; (iterate 3 exact rfl); (first | assumption | omega))
                    | (apply HQ.gno; (iterate 3 exact rfl); (first | assumption | omega))
                    | (apply HQ.gtrue; (iterate 3 exact rfl); assumption)
                    | (apply HQ.gfalse; (iterate 3 exact rfl); assumption))
                  repeat (
                    first
                    | ((first | apply H.move | apply H.assign | apply H.nilCheck | apply H.len_slice); (iterate 3 exact rfl))
                    | (apply H.fieldAddr; (iterate 3 exact rfl); exact inferInstance; exact rfl)
                    | (apply H.load1; (iterate 3 exact rfl); apply Rd1.ofRow; (repeat (first | exact .here _ _ _ | apply At.there)); (iterate 2 exact rfl))
                    | (first | apply H.seq | apply H.region | apply H.nil | apply H.then_normal)
                    | ((first | apply H.cmp | apply H.build); (iterate 5 exact rfl))
                    | ((first | (apply H.ar; (iterate 4 exact rfl)) | (apply H.conv_int; (iterate 2 exact rfl))); (first | (apply wr_i64_s1; omega) | (apply wr_i64_n1; omega) | (apply wr_i64_nn; omega) | (apply wr_i64; omega) | (apply wr_u64; omega) | (apply wr_u8; omega) | (apply wr_u16; omega) | rfl); exact rfl)
                    | (apply H.pass; (iterate 2 exact rfl))
                    | (apply H.pass0; exact rfl)
                    | (apply H.pickT; (iterate 4 exact rfl))
                    | ((first | apply H.pickF | apply H.extract | apply H.not); (iterate 4 exact rfl))
                    | ((first | apply H.ptrNil | apply H.sliceNil); (iterate 5 exact rfl))
                    | (apply H.store1; (iterate 4 exact rfl); (repeat (first | exact .here _ _ _ | apply At.there)); (repeat (first | exact .here _ _ _ | apply SetV.there)))
                    | (apply H.cond_true; exact rfl)
                    | (apply H.cond_false; exact rfl)
                    | (first | apply H.skip | apply H.ret | apply H.then_ret | apply H.then_exit | apply H.exit | apply H.block | apply H.in_normal | apply H.in_ret | apply H.in_hit | apply H.loop_ret | apply H.loop_exit)
                    | (apply H.in_miss; exact rfl)
                    | (apply H.gyes; (iterate 3 exact rfl); (first | assumption | omega))
                    | (apply H.gno; (iterate 3 exact rfl); (first | assumption | omega))
                    | (apply H.cond_yes; exact rfl; (first | assumption | omega))
                    | (apply H.cond_no; exact rfl; (first | assumption | omega))
                    | ((first | apply H.gtrue); (iterate 3 exact rfl); assumption)
                    | (apply H.gfalse; (iterate 3 exact rfl); assumption)
                    | (apply H.cond_t; exact rfl; assumption)
                    | (apply H.cond_f; exact rfl; assumption))
                  exact H.again (j + 1) (by show j + 1 ≤ _; omega) (by show s.init.length + 1 - (j + 1) < s.init.length + 1 - j; omega) ⟨rfl, rfl, rfl, rfl, rfl, rfl, rfl, rfl, rfl, trivial⟩ rfl rfl
              · obtain ⟨hok, hgw⟩ := hne hm
                clear hne
                rw [hok]
                by_cases hj0 : j = 0
                · skip
                  refine H.drawQ (by kernel_rfl) (by decide +kernel) (by first | exact blind_fn | exact blind_seq blind_fn | exact blind_seq (blind_seq blind_fn) | (repeat (first | exact blind_fn | refine blind_seq ?_ | refine blind_block ?_ | refine blind_loop ?_))) ?_
                  repeat (
                    first
                    | ((first | apply HQ.move | apply HQ.assign | apply HQ.nilCheck | apply HQ.len_slice); (iterate 3 exact rfl))
                    | (apply HQ.fieldAddr; (iterate 3 exact rfl); exact inferInstance; exact rfl)
                    | (apply HQ.load1; (iterate 3 exact rfl); apply Rd1.ofRow; (repeat (first | exact .here _ _ _ | apply At.there)); (iterate 2 exact rfl))
                    | ((first | apply HQ.done0 | apply HQ.done); exact rfl)
                    | ((first | apply HQ.cmp | apply HQ.build); (iterate 5 exact rfl))
                    | ((first | (apply HQ.ar; (iterate 4 exact rfl)) | (apply HQ.conv_int; (iterate 2 exact rfl))); (first | (apply wr_i64_s1; omega) | (apply wr_i64_n1; omega) | (apply wr_i64_nn; omega) | (apply wr_i64; omega) | (apply wr_u64; omega) | (apply wr_u8; omega) | (apply wr_u16; omega) | rfl); exact rfl)
                    | (apply HQ.pass; (iterate 2 exact rfl))
                    | (apply HQ.pickT; (iterate 4 exact rfl))
                    | ((first | apply HQ.pickF | apply HQ.extract | apply HQ.not); (iterate 4 exact rfl))
                    | ((first | apply HQ.ptrNil | apply HQ.sliceNil); (iterate 5 exact rfl))
                    | (apply HQ.gyes; (iterate 3 exact rfl); (first | assumption | omega))
                    | (apply HQ.gno; (iterate 3 exact rfl); (first | assumption | omega))
                    | (apply HQ.gtrue; (iterate 3 exact rfl); assumption)
                    | (apply HQ.gfalse; (iterate 3 exact rfl); assumption))
                  refine HQ.index1 rfl rfl rfl rfl (by omega) rfl ?_
                  refine HQ.load1 rfl rfl rfl (.of (Rd.ofSlc (by repeat (first | exact .here _ _ _ | apply At.there)) (by omega)) g2) rfl ?_
                  repeat (
                    first
                    | ((first | apply HQ.move | apply HQ.assign | apply HQ.nilCheck | apply HQ.len_slice); (iterate 3 exact rfl))
                    | (apply HQ.fieldAddr; (iterate 3 exact rfl); exact inferInstance; exact rfl)
                    | (apply HQ.load1; (iterate 3 exact rfl); apply Rd1.ofRow; (repeat (first | exact .here _ _ _ | apply At.there)); (iterate 2 exact rfl))
                    | ((first | apply HQ.done0 | apply HQ.done); exact rfl)
                    | ((first | apply HQ.cmp | apply HQ.build); (iterate 5 exact rfl))
                    | ((first | (apply HQ.ar; (iterate 4 exact rfl)) | (apply HQ.conv_int; (iterate 2 exact rfl))); (first | (apply wr_i64_s1; omega) | (apply wr_i64_n1; omega) | (apply wr_i64_nn; omega) | (apply wr_i64; omega) | (apply wr_u64; omega) | (apply wr_u8; omega) | (apply wr_u16; omega) | rfl); exact rfl)
                    | (apply HQ.pass; (iterate 2 exact rfl))
                    | (apply HQ.pickT; (iterate 4 exact rfl))
                    | ((first | apply HQ.pickF | apply HQ.extract | apply HQ.not); (iterate 4 exact rfl))
                    | ((first | apply HQ.ptrNil | apply HQ.sliceNil); (iterate 5 exact rfl))
                    | (apply HQ.gyes; (iterate 3 exact rfl); (first | assumption | omega))
                    | (apply HQ.gno; (iterate 3 exact rfl); (first | assumption | omega))
                    | (apply HQ.gtrue; (iterate 3 exact rfl); assumption)
                    | (apply HQ.gfalse; (iterate 3 exact rfl); assumption))
                  refine HQ.index1 rfl rfl rfl rfl hlt3 rfl ?_
                  refine HQ.load1 rfl rfl rfl (.of (Rd.ofSlc (by repeat (first | exact .here _ _ _ | apply At.there)) (by omega)) g1) rfl ?_
                  repeat (
                    first
                    | ((first | apply HQ.move | apply HQ.assign | apply HQ.nilCheck | apply HQ.len_slice); (iterate 3 exact rfl))
                    | (apply HQ.fieldAddr; (iterate 3 exact rfl); exact inferInstance; exact rfl)
                    | (apply HQ.load1; (iterate 3 exact rfl); apply Rd1.ofRow; (repeat (first | exact .here _ _ _ | apply At.there)); (iterate 2 exact rfl))
                    | ((first | apply HQ.done0 | apply HQ.done); exact rfl)
                    | ((first | apply HQ.cmp | apply HQ.build); (iterate 5 exact rfl))
                    | ((first | (apply HQ.ar; (iterate 4 exact rfl)) | (apply HQ.conv_int; (iterate 2 exact rfl))); (first | (apply wr_i64_s1; omega) | (apply wr_i64_n1; omega) | (apply wr_i64_nn; omega) | (apply wr_i64; omega) | (apply wr_u64; omega) | (apply wr_u8; omega) | (apply wr_u16; omega) | rfl); exact rfl)
                    | (apply HQ.pass; (iterate 2 exact rfl))
                    | (apply HQ.pickT; (iterate 4 exact rfl))
                    | ((first | apply HQ.pickF | apply HQ.extract | apply HQ.not); (iterate 4 exact rfl))
                    | ((first | apply HQ.ptrNil | apply HQ.sliceNil); (iterate 5 exact rfl))
                    | (apply HQ.gyes; (iterate 3 exact rfl); (first | assumption | omega))
                    | (apply HQ.gno; (iterate 3 exact rfl); (first | assumption | omega))
                    | (apply HQ.gtrue; (iterate 3 exact rfl); assumption)
                    | (apply HQ.gfalse; (iterate 3 exact rfl); assumption))
                  refine HQ.index1 rfl rfl rfl rfl hlt3 rfl ?_
                  refine HQ.load1 rfl rfl rfl (.of (Rd.ofSlc (by repeat (first | exact .here _ _ _ | apply At.there)) (by omega)) g3) rfl ?_
                  repeat (
                    first
                    | ((first | apply HQ.move | apply HQ.assign | apply HQ.nilCheck | apply HQ.len_slice); (iterate 3 exact rfl))
                    | (apply HQ.fieldAddr; (iterate 3 exact rfl); exact inferInstance; exact rfl)
                    | (apply HQ.load1; (iterate 3 exact rfl); apply Rd1.ofRow; (repeat (first | exact .here _ _ _ | apply At.there)); (iterate 2 exact rfl))
                    | ((first | apply HQ.done0 | apply HQ.done); exact rfl)
                    | ((first | apply HQ.cmp | apply HQ.build); (iterate 5 exact rfl))
                    | ((first | (apply HQ.ar; (iterate 4 exact rfl)) | (apply HQ.conv_int; (iterate 2 exact rfl))); (first | (apply wr_i64_s1; omega) | (apply wr_i64_n1; omega) | (apply wr_i64_nn; omega) | (apply wr_i64; omega) | (apply wr_u64; omega) | (apply wr_u8; omega) | (apply wr_u16; omega) | rfl); exact rfl)
                    | (apply HQ.pass; (iterate 2 exact rfl))
                    | (apply HQ.pickT; (iterate 4 exact rfl))
                    | ((first | apply HQ.pickF | apply HQ.extract | apply HQ.not); (iterate 4 exact rfl))
                    | ((first | apply HQ.ptrNil | apply HQ.sliceNil); (iterate 5 exact rfl))
                    | (apply HQ.gyes; (iterate 3 exact rfl); (first | assumption | omega))
                    | (apply HQ.gno; (iterate 3 exact rfl); (first | assumption | omega))
                    | (apply HQ.gtrue; (iterate 3 exact rfl); assumption)
                    | (apply HQ.gfalse; (iterate 3 exact rfl); assumption))
                  refine HQ.index1 rfl rfl rfl rfl hlt3 rfl ?_
                  refine HQ.load1 rfl rfl rfl (.of (Rd.ofSlc (by repeat (first | exact .here _ _ _ | apply At.there)) (by omega)) g3) rfl ?_
                  repeat (
                    first
                    | ((first | apply HQ.move | apply HQ.assign | apply HQ.nilCheck | apply HQ.len_slice); (iterate 3 exact rfl))
                    | (apply HQ.fieldAddr; (iterate 3 exact rfl); exact inferInstance; exact rfl)
                    | (apply HQ.load1; (iterate 3 exact rfl); apply Rd1.ofRow; (repeat (first | exact .here _ _ _ | apply At.there)); (iterate 2 exact rfl))
                    | ((first | apply HQ.done0 | apply HQ.done); exact rfl)
                    | ((first | apply HQ.cmp | apply HQ.build); (iterate 5 exact rfl))
                    | ((first | (apply HQ.ar; (iterate 4 exact rfl)) | (apply HQ.conv_int; (iterate 2 exact rfl))); (first | (apply wr_i64_s1; omega) | (apply wr_i64_n1; omega) | (apply wr_i64_nn; omega) | (apply wr_i64; omega) | (apply wr_u64; omega) | (apply wr_u8; omega) | (apply wr_u16; omega) | rfl); exact rfl)
                    | (apply HQ.pass; (iterate 2 exact rfl))
                    | (apply HQ.pickT; (iterate 4 exact rfl))
                    | ((first | apply HQ.pickF | apply HQ.extract | apply HQ.not); (iterate 4 exact rfl))
                    | ((first | apply HQ.ptrNil | apply HQ.sliceNil); (iterate 5 exact rfl))
                    | (apply HQ.gyes; (iterate 3 exact rfl); (first | assumption | omega))
                    | (apply HQ.gno; (iterate 3 exact rfl); (first | assumption | omega))
                    | (apply HQ.gtrue; (iterate 3 exact rfl); assumption)
                    | (apply HQ.gfalse; (iterate 3 exact rfl); assumption))
                  refine HQ.index1 rfl rfl rfl rfl hlt3 rfl ?_
                  refine HQ.load1 rfl rfl rfl (.of (Rd.ofSlc (by repeat (first | exact .here _ _ _ | apply At.there)) (by omega)) g1) rfl ?_
                  repeat (
                    first
                    | ((first | apply HQ.move | apply HQ.assign | apply HQ.nilCheck | apply HQ.len_slice); (iterate 3 exact rfl))
                    | (apply HQ.fieldAddr; (iterate 3 exact rfl); exact inferInstance; exact rfl)
                    | (apply HQ.load1; (iterate 3 exact rfl); apply Rd1.ofRow; (repeat (first | exact .here _ _ _ | apply At.there)); (iterate 2 exact rfl))
                    | ((first | apply HQ.done0 | apply HQ.done); exact rfl)
                    | ((first | apply HQ.cmp | apply HQ.build); (iterate 5 exact rfl))
                    | ((first | (apply HQ.ar; (iterate 4 exact rfl)) | (apply HQ.conv_int; (iterate 2 exact rfl))); (first | (apply wr_i64_s1; omega) | (apply wr_i64_n1; omega) | (apply wr_i64_nn; omega) | (apply wr_i64; omega) | (apply wr_u64; omega) | (apply wr_u8; omega) | (apply wr_u16; omega) | rfl); exact rfl)
                    | (apply HQ.pass; (iterate 2 exact rfl))
                    | (apply HQ.pickT; (iterate 4 exact rfl))
                    | ((first | apply HQ.pickF | apply HQ.extract | apply HQ.not); (iterate 4 exact rfl))
                    | ((first | apply HQ.ptrNil | apply HQ.sliceNil); (iterate 5 exact rfl))
                    | (apply HQ.gyes; (iterate 3 exact rfl); (first | assumption | omega))
                    | (apply HQ.gno; (iterate 3 exact rfl); (first | assumption | omega))
                    | (apply HQ.gtrue; (iterate 3 exact rfl); assumption)
                    | (apply HQ.gfalse; (iterate 3 exact rfl); assumption))
                  repeat (
                    first
                    | ((first | apply H.move | apply H.assign | apply H.nilCheck | apply H.len_slice); (iterate 3 exact rfl))
                    | (apply H.fieldAddr; (iterate 3 exact rfl); exact inferInstance; exact rfl)
                    | (apply H.load1; (iterate 3 exact rfl); apply Rd1.ofRow; (repeat (first | exact .here _ _ _ | apply At.there)); (iterate 2 exact rfl))
                    | (first | apply H.seq | apply H.region | apply H.nil | apply H.then_normal)
                    | ((first | apply H.cmp | apply H.build); (iterate 5 exact rfl))
                    | ((first | (apply H.ar; (iterate 4 exact rfl)) | (apply H.conv_int; (iterate 2 exact rfl))); (first | (apply wr_i64_s1; omega) | (apply wr_i64_n1; omega) | (apply wr_i64_nn; omega) | (apply wr_i64; omega) | (apply wr_u64; omega) | (apply wr_u8; omega) | (apply wr_u16; omega) | rfl); exact rfl)
                    | (apply H.pass; (iterate 2 exact rfl))
                    | (apply H.pass0; exact rfl)
                    | (apply H.pickT; (iterate 4 exact rfl))
                    | ((first | apply H.pickF | apply H.extract | apply H.not); (iterate 4 exact rfl))
                    | ((first | apply H.ptrNil | apply H.sliceNil); (iterate 5 exact rfl))
                    | (apply H.store1; (iterate 4 exact rfl); (repeat (first | exact .here _ _ _ | apply At.there)); (repeat (first | exact .here _ _ _ | apply SetV.there)))
                    | (apply H.cond_true; exact rfl)
                    | (apply H.cond_false; exact rfl)
                    | (first | apply H.skip | apply H.ret | apply H.then_ret | apply H.then_exit | apply H.exit | apply H.block | apply H.in_normal | apply H.in_ret | apply H.in_hit | apply H.loop_ret | apply H.loop_exit)
                    | (apply H.in_miss; exact rfl)
                    | (apply H.gyes; (iterate 3 exact rfl); (first | assumption | omega))
                    | (apply H.gno; (iterate 3 exact rfl); (first | assumption | omega))
                    | (apply H.cond_yes; exact rfl; (first | assumption | omega))
                    | (apply H.cond_no; exact rfl; (first | assumption | omega))
                    | ((first | apply H.gtrue); (iterate 3 exact rfl); assumption)
                    | (apply H.gfalse; (iterate 3 exact rfl); assumption)
                    | (apply H.cond_t; exact rfl; assumption)
                    | (apply H.cond_f; exact rfl; assumption))
                  exact H.again (j + 1) (by show j + 1 ≤ _; omega) (by show s.init.length + 1 - (j + 1) < s.init.length + 1 - j; omega) ⟨rfl, rfl, rfl, rfl, rfl, rfl, rfl, rfl, rfl, trivial⟩ rfl rfl
                · obtain ⟨⟨w0, m0⟩, hq0⟩ := get_all (s := s) (j := j - 1) (by omega)
                  have g4 : (viewsV s.all)[j - 1]? = some (.int .u64 w0) := by simp [viewsV, hq0]
                  have hlt0 : w0 < w := by
                    have e1 : j - 1 + 1 = j := by omega
                    exact hwf.rises hq0 (by rw [e1]; exact hq)
                  skip
                  refine H.drawQ (by kernel_rfl) (by decide +kernel) (by first | exact blind_fn | exact blind_seq blind_fn | exact blind_seq (blind_seq blind_fn) | (repeat (first | exact blind_fn | refine blind_seq ?_ | refine blind_block ?_ | refine blind_loop ?_))) ?_
                  repeat (
                    first
                    | ((first | apply HQ.move | apply HQ.assign | apply HQ.nilCheck | apply HQ.len_slice); (iterate 3 exact rfl))
                    | (apply HQ.fieldAddr; (iterate 3 exact rfl); exact inferInstance; exact rfl)
                    | (apply HQ.load1; (iterate 3 exact rfl); apply Rd1.ofRow; (repeat (first | exact .here _ _ _ | apply At.there)); (iterate 2 exact rfl))
                    | ((first | apply HQ.done0 | apply HQ.done); exact rfl)
                    | ((first | apply HQ.cmp | apply HQ.build); (iterate 5 exact rfl))
                    | ((first | (apply HQ.ar; (iterate 4 exact rfl)) | (apply HQ.conv_int; (iterate 2 exact rfl))); (first | (apply wr_i64_s1; omega) | (apply wr_i64_n1; omega) | (apply wr_i64_nn; omega) | (apply wr_i64; omega) | (apply wr_u64; omega) | (apply wr_u8; omega) | (apply wr_u16; omega) | rfl); exact rfl)
                    | (apply HQ.pass; (iterate 2 exact rfl))
                    | (apply HQ.pickT; (iterate 4 exact rfl))
                    | ((first | apply HQ.pickF | apply HQ.extract | apply HQ.not); (iterate 4 exact rfl))
                    | ((first | apply HQ.ptrNil | apply HQ.sliceNil); (iterate 5 exact rfl))
                    | (apply HQ.gyes; (iterate 3 exact rfl); (first | assumption | omega))
                    | (apply HQ.gno; (iterate 3 exact rfl); (first | assumption | omega))
                    | (apply HQ.gtrue; (iterate 3 exact rfl); assumption)
                    | (apply HQ.gfalse; (iterate 3 exact rfl); assumption))
                  refine HQ.index1 rfl rfl rfl rfl (by omega) rfl ?_
                  refine HQ.load1 rfl rfl rfl (.of (Rd.ofSlc (by repeat (first | exact .here _ _ _ | apply At.there)) (by omega)) g2) rfl ?_
                  repeat (
                    first
                    | ((first | apply HQ.move | apply HQ.assign | apply HQ.nilCheck | apply HQ.len_slice); (iterate 3 exact rfl))
                    | (apply HQ.fieldAddr; (iterate 3 exact rfl); exact inferInstance; exact rfl)
                    | (apply HQ.load1; (iterate 3 exact rfl); apply Rd1.ofRow; (repeat (first | exact .here _ _ _ | apply At.there)); (iterate 2 exact rfl))
                    | ((first | apply HQ.done0 | apply HQ.done); exact rfl)
                    | ((first | apply HQ.cmp | apply HQ.build); (iterate 5 exact rfl))
                    | ((first | (apply HQ.ar; (iterate 4 exact rfl)) | (apply HQ.conv_int; (iterate 2 exact rfl))); (first | (apply wr_i64_s1; omega) | (apply wr_i64_n1; omega) | (apply wr_i64_nn; omega) | (apply wr_i64; omega) | (apply wr_u64; omega) | (apply wr_u8; omega) | (apply wr_u16; omega) | rfl); exact rfl)
                    | (apply HQ.pass; (iterate 2 exact rfl))
                    | (apply HQ.pickT; (iterate 4 exact rfl))
                    | ((first | apply HQ.pickF | apply HQ.extract | apply HQ.not); (iterate 4 exact rfl))
                    | ((first | apply HQ.ptrNil | apply HQ.sliceNil); (iterate 5 exact rfl))
                    | (apply HQ.gyes; (iterate 3 exact rfl); (first | assumption | omega))
                    | (apply HQ.gno; (iterate 3 exact rfl); (first | assumption | omega))
                    | (apply HQ.gtrue; (iterate 3 exact rfl); assumption)
                    | (apply HQ.gfalse; (iterate 3 exact rfl); assumption))
                  refine HQ.index1 rfl rfl rfl rfl hlt3 rfl ?_
                  refine HQ.load1 rfl rfl rfl (.of (Rd.ofSlc (by repeat (first | exact .here _ _ _ | apply At.there)) (by omega)) g1) rfl ?_
                  repeat (
                    first
                    | ((first | apply HQ.move | apply HQ.assign | apply HQ.nilCheck | apply HQ.len_slice); (iterate 3 exact rfl))
                    | (apply HQ.fieldAddr; (iterate 3 exact rfl); exact inferInstance; exact rfl)
                    | (apply HQ.load1; (iterate 3 exact rfl); apply Rd1.ofRow; (repeat (first | exact .here _ _ _ | apply At.there)); (iterate 2 exact rfl))
                    | ((first | apply HQ.done0 | apply HQ.done); exact rfl)
                    | ((first | apply HQ.cmp | apply HQ.build); (iterate 5 exact rfl))
                    | ((first | (apply HQ.ar; (iterate 4 exact rfl)) | (apply HQ.conv_int; (iterate 2 exact rfl))); (first | (apply wr_i64_s1; omega) | (apply wr_i64_n1; omega) | (apply wr_i64_nn; omega) | (apply wr_i64; omega) | (apply wr_u64; omega) | (apply wr_u8; omega) | (apply wr_u16; omega) | rfl); exact rfl)
                    | (apply HQ.pass; (iterate 2 exact rfl))
                    | (apply HQ.pickT; (iterate 4 exact rfl))
                    | ((first | apply HQ.pickF | apply HQ.extract | apply HQ.not); (iterate 4 exact rfl))
                    | ((first | apply HQ.ptrNil | apply HQ.sliceNil); (iterate 5 exact rfl))
                    | (apply HQ.gyes; (iterate 3 exact rfl); (first | assumption | omega))
                    | (apply HQ.gno; (iterate 3 exact rfl); (first | assumption | omega))
                    | (apply HQ.gtrue; (iterate 3 exact rfl); assumption)
                    | (apply HQ.gfalse; (iterate 3 exact rfl); assumption))
                  refine HQ.index1 rfl rfl rfl rfl hlt3 rfl ?_
                  refine HQ.load1 rfl rfl rfl (.of (Rd.ofSlc (by repeat (first | exact .here _ _ _ | apply At.there)) (by omega)) g3) rfl ?_
                  repeat (
                    first
                    | ((first | apply HQ.move | apply HQ.assign | apply HQ.nilCheck | apply HQ.len_slice); (iterate 3 exact rfl))
                    | (apply HQ.fieldAddr; (iterate 3 exact rfl); exact inferInstance; exact rfl)
                    | (apply HQ.load1; (iterate 3 exact rfl); apply Rd1.ofRow; (repeat (first | exact .here _ _ _ | apply At.there)); (iterate 2 exact rfl))
                    | ((first | apply HQ.done0 | apply HQ.done); exact rfl)
                    | ((first | apply HQ.cmp | apply HQ.build); (iterate 5 exact rfl))
                    | ((first | (apply HQ.ar; (iterate 4 exact rfl)) | (apply HQ.conv_int; (iterate 2 exact rfl))); (first | (apply wr_i64_s1; omega) | (apply wr_i64_n1; omega) | (apply wr_i64_nn; omega) | (apply wr_i64; omega) | (apply wr_u64; omega) | (apply wr_u8; omega) | (apply wr_u16; omega) | rfl); exact rfl)
                    | (apply HQ.pass; (iterate 2 exact rfl))
                    | (apply HQ.pickT; (iterate 4 exact rfl))
                    | ((first | apply HQ.pickF | apply HQ.extract | apply HQ.not); (iterate 4 exact rfl))
                    | ((first | apply HQ.ptrNil | apply HQ.sliceNil); (iterate 5 exact rfl))
                    | (apply HQ.gyes; (iterate 3 exact rfl); (first | assumption | omega))
                    | (apply HQ.gno; (iterate 3 exact rfl); (first | assumption | omega))
                    | (apply HQ.gtrue; (iterate 3 exact rfl); assumption)
                    | (apply HQ.gfalse; (iterate 3 exact rfl); assumption))
                  refine HQ.index1 rfl rfl rfl rfl hlt3 rfl ?_
                  refine HQ.load1 rfl rfl rfl (.of (Rd.ofSlc (by repeat (first | exact .here _ _ _ | apply At.there)) (by omega)) g3) rfl ?_
                  repeat (
                    first
                    | ((first | apply HQ.move | apply HQ.assign | apply HQ.nilCheck | apply HQ.len_slice); (iterate 3 exact rfl))
                    | (apply HQ.fieldAddr; (iterate 3 exact rfl); exact inferInstance; exact rfl)
                    | (apply HQ.load1; (iterate 3 exact rfl); apply Rd1.ofRow; (repeat (first | exact .here _ _ _ | apply At.there)); (iterate 2 exact rfl))
                    | ((first | apply HQ.done0 | apply HQ.done); exact rfl)
                    | ((first | apply HQ.cmp | apply HQ.build); (iterate 5 exact rfl))
                    | ((first | (apply HQ.ar; (iterate 4 exact rfl)) | (apply HQ.conv_int; (iterate 2 exact rfl))); (first | (apply wr_i64_s1; omega) | (apply wr_i64_n1; omega) | (apply wr_i64_nn; omega) | (apply wr_i64; omega) | (apply wr_u64; omega) | (apply wr_u8; omega) | (apply wr_u16; omega) | rfl); exact rfl)
                    | (apply HQ.pass; (iterate 2 exact rfl))
                    | (apply HQ.pickT; (iterate 4 exact rfl))
                    | ((first | apply HQ.pickF | apply HQ.extract | apply HQ.not); (iterate 4 exact rfl))
                    | ((first | apply HQ.ptrNil | apply HQ.sliceNil); (iterate 5 exact rfl))
                    | (apply HQ.gyes; (iterate 3 exact rfl); (first | assumption | omega))
                    | (apply HQ.gno; (iterate 3 exact rfl); (first | assumption | omega))
                    | (apply HQ.gtrue; (iterate 3 exact rfl); assumption)
                    | (apply HQ.gfalse; (iterate 3 exact rfl); assumption))
                  refine HQ.index1 rfl rfl rfl rfl hlt3 rfl ?_
                  refine HQ.load1 rfl rfl rfl (.of (Rd.ofSlc (by repeat (first | exact .here _ _ _ | apply At.there)) (by omega)) g1) rfl ?_
                  repeat (
                    first
                    | ((first | apply HQ.move | apply HQ.assign | apply HQ.nilCheck | apply HQ.len_slice); (iterate 3 exact rfl))
                    | (apply HQ.fieldAddr; (iterate 3 exact rfl); exact inferInstance; exact rfl)
                    | (apply HQ.load1; (iterate 3 exact rfl); apply Rd1.ofRow; (repeat (first | exact .here _ _ _ | apply At.there)); (iterate 2 exact rfl))
                    | ((first | apply HQ.done0 | apply HQ.done); exact rfl)
                    | ((first | apply HQ.cmp | apply HQ.build); (iterate 5 exact rfl))
                    | ((first | (apply HQ.ar; (iterate 4 exact rfl)) | (apply HQ.conv_int; (iterate 2 exact rfl))); (first | (apply wr_i64_s1; omega) | (apply wr_i64_n1; omega) | (apply wr_i64_nn; omega) | (apply wr_i64; omega) | (apply wr_u64; omega) | (apply wr_u8; omega) | (apply wr_u16; omega) | rfl); exact rfl)
                    | (apply HQ.pass; (iterate 2 exact rfl))
                    | (apply HQ.pickT; (iterate 4 exact rfl))
                    | ((first | apply HQ.pickF | apply HQ.extract | apply HQ.not); (iterate 4 exact rfl))
                    | ((first | apply HQ.ptrNil | apply HQ.sliceNil); (iterate 5 exact rfl))
                    | (apply HQ.gyes; (iterate 3 exact rfl); (first | assumption | omega))
                    | (apply HQ.gno; (iterate 3 exact rfl); (first | assumption | omega))
                    | (apply HQ.gtrue; (iterate 3 exact rfl); assumption)
                    | (apply HQ.gfalse; (iterate 3 exact rfl); assumption))
                  refine HQ.index1 (i := j - 1) rfl rfl rfl (by omega) (by omega) rfl ?_
                  refine HQ.load1 rfl rfl rfl (.of (Rd.ofSlc (by repeat (first | exact .here _ _ _ | apply At.there)) (by omega)) g4) rfl ?_
                  repeat (
                    first
                    | ((first | apply HQ.move | apply HQ.assign | apply HQ.nilCheck | apply HQ.len_slice); (iterate 3 exact rfl))
                    | (apply HQ.fieldAddr; (iterate 3 exact rfl); exact inferInstance; exact rfl)
                    | (apply HQ.load1; (iterate 3 exact rfl); apply Rd1.ofRow; (repeat (first | exact .here _ _ _ | apply At.there)); (iterate 2 exact rfl))
                    | ((first | apply HQ.done0 | apply HQ.done); exact rfl)
                    | ((first | apply HQ.cmp | apply HQ.build); (iterate 5 exact rfl))
                    | ((first | (apply HQ.ar; (iterate 4 exact rfl)) | (apply HQ.conv_int; (iterate 2 exact rfl))); (first | (apply wr_i64_s1; omega) | (apply wr_i64_n1; omega) | (apply wr_i64_nn; omega) | (apply wr_i64; omega) | (apply wr_u64; omega) | (apply wr_u8; omega) | (apply wr_u16; omega) | rfl); exact rfl)
                    | (apply HQ.pass; (iterate 2 exact rfl))
                    | (apply HQ.pickT; (iterate 4 exact rfl))
                    | ((first | apply HQ.pickF | apply HQ.extract | apply HQ.not); (iterate 4 exact rfl))
                    | ((first | apply HQ.ptrNil | apply HQ.sliceNil); (iterate 5 exact rfl))
                    | (apply HQ.gyes; (iterate 3 exact rfl); (first | assumption | omega))
                    | (apply HQ.gno; (iterate 3 exact rfl); (first | assumption | omega))
                    | (apply HQ.gtrue; (iterate 3 exact rfl); assumption)
                    | (apply HQ.gfalse; (iterate 3 exact rfl); assumption))
                  refine HQ.index1 rfl rfl rfl rfl hlt3 rfl ?_
                  refine HQ.load1 rfl rfl rfl (.of (Rd.ofSlc (by repeat (first | exact .here _ _ _ | apply At.there)) (by omega)) g1) rfl ?_
                  repeat (
                    first
                    | ((first | apply HQ.move | apply HQ.assign | apply HQ.nilCheck | apply HQ.len_slice); (iterate 3 exact rfl))
                    | (apply HQ.fieldAddr; (iterate 3 exact rfl); exact inferInstance; exact rfl)
                    | (apply HQ.load1; (iterate 3 exact rfl); apply Rd1.ofRow; (repeat (first | exact .here _ _ _ | apply At.there)); (iterate 2 exact rfl))
                    | ((first | apply HQ.done0 | apply HQ.done); exact rfl)
                    | ((first | apply HQ.cmp | apply HQ.build); (iterate 5 exact rfl))
                    | ((first | (apply HQ.ar; (iterate 4 exact rfl)) | (apply HQ.conv_int; (iterate 2 exact rfl))); (first | (apply wr_i64_s1; omega) | (apply wr_i64_n1; omega) | (apply wr_i64_nn; omega) | (apply wr_i64; omega) | (apply wr_u64; omega) | (apply wr_u8; omega) | (apply wr_u16; omega) | rfl); exact rfl)
                    | (apply HQ.pass; (iterate 2 exact rfl))
                    | (apply HQ.pickT; (iterate 4 exact rfl))
                    | ((first | apply HQ.pickF | apply HQ.extract | apply HQ.not); (iterate 4 exact rfl))
                    | ((first | apply HQ.ptrNil | apply HQ.sliceNil); (iterate 5 exact rfl))
                    | (apply HQ.gyes; (iterate 3 exact rfl); (first | assumption | omega))
                    | (apply HQ.gno; (iterate 3 exact rfl); (first | assumption | omega))
                    | (apply HQ.gtrue; (iterate 3 exact rfl); assumption)
                    | (apply HQ.gfalse; (iterate 3 exact rfl); assumption))
                  repeat (
                    first
                    | ((first | apply H.move | apply H.assign | apply H.nilCheck | apply H.len_slice); (iterate 3 exact rfl))
                    | (apply H.fieldAddr; (iterate 3 exact rfl); exact inferInstance; exact rfl)
                    | (apply H.load1; (iterate 3 exact rfl); apply Rd1.ofRow; (repeat (first | exact .here _ _ _ | apply At.there)); (iterate 2 exact rfl))
                    | (first | apply H.seq | apply H.region | apply H.nil | apply H.then_normal)
                    | ((first | apply H.cmp | apply H.build); (iterate 5 exact rfl))
                    | ((first | (apply H.ar; (iterate 4 exact rfl)) | (apply H.conv_int; (iterate 2 exact rfl))); (first | (apply wr_i64_s1; omega) | (apply wr_i64_n1; omega) | (apply wr_i64_nn; omega) | (apply wr_i64; omega) | (apply wr_u64; omega) | (apply wr_u8; omega) | (apply wr_u16; omega) | rfl); exact rfl)
                    | (apply H.pass; (iterate 2 exact rfl))
                    | (apply H.pass0; exact rfl)
                    | (apply H.pickT; (iterate 4 exact rfl))
                    | ((first | apply H.pickF | apply H.extract | apply H.not); (iterate 4 exact rfl))
                    | ((first | apply H.ptrNil | apply H.sliceNil); (iterate 5 exact rfl))
                    | (apply H.store1; (iterate 4 exact rfl); (repeat (first | exact .here _ _ _ | apply At.there)); (repeat (first | exact .here _ _ _ | apply SetV.there)))
                    | (apply H.cond_true; exact rfl)
                    | (apply H.cond_false; exact rfl)
                    | (first | apply H.skip | apply H.ret | apply H.then_ret | apply H.then_exit | apply H.exit | apply H.block | apply H.in_normal | apply H.in_ret | apply H.in_hit | apply H.loop_ret | apply H.loop_exit)
                    | (apply H.in_miss; exact rfl)
                    | (apply H.gyes; (iterate 3 exact rfl); (first | assumption | omega))
                    | (apply H.gno; (iterate 3 exact rfl); (first | assumption | omega))
                    | (apply H.cond_yes; exact rfl; (first | assumption | omega))
                    | (apply H.cond_no; exact rfl; (first | assumption | omega))
                    | ((first | apply H.gtrue); (iterate 3 exact rfl); assumption)
                    | (apply H.gfalse; (iterate 3 exact rfl); assumption)
                    | (apply H.cond_t; exact rfl; assumption)
                    | (apply H.cond_f; exact rfl; assumption))
                  exact H.again (j + 1) (by show j + 1 ≤ _; omega) (by show s.init.length + 1 - (j + 1) < s.init.length + 1 - j; omega) ⟨rfl, rfl, rfl, rfl, rfl, rfl, rfl, rfl, rfl, trivial⟩ rfl rfl
            · repeat (
              first
              | ((first | apply H.move | apply H.assign | apply H.nilCheck | apply H.len_slice); (iterate 3 exact rfl))
              | (apply H.fieldAddr; (iterate 3 exact rfl); exact inferInstance; exact rfl)
              | (apply H.load1; (iterate 3 exact rfl); apply Rd1.ofRow; (repeat (first | exact .here _ _ _ | apply At.there)); (iterate 2 exact rfl))
              | (first | apply H.seq | apply H.region | apply H.nil | apply H.then_normal)
              | ((first | apply H.cmp | apply H.build); (iterate 5 exact rfl))
              | ((first | (apply H.ar; (iterate 4 exact rfl)) | (apply H.conv_int; (iterate 2 exact rfl))); (first | (apply wr_i64_s1; omega) | (apply wr_i64_n1; omega) | (apply wr_i64_nn; omega) | (apply wr_i64; omega) | (apply wr_u64; omega) | (apply wr_u8; omega) | (apply wr_u16; omega) | rfl); exact rfl)
              | (apply H.pass; (iterate 2 exact rfl))
              | (apply H.pass0; exact rfl)
              | (apply H.pickT; (iterate 4 exact rfl))
              | ((first | apply H.pickF | apply H.extract | apply H.not); (iterate 4 exact rfl))
              | ((first | apply H.ptrNil | apply H.sliceNil); (iterate 5 exact rfl))
              | (apply H.store1; (iterate 4 exact rfl); (repeat (first | exact .here _ _ _ | apply At.there)); (repeat (first | exact .here _ _ _ | apply SetV.there)))
              | (apply H.cond_true; exact rfl)
              | (apply H.cond_false; exact rfl)
              | (first | apply H.skip | apply H.ret | apply H.then_ret | apply H.then_exit | apply H.exit | apply H.block | apply H.in_normal | apply H.in_ret | apply H.in_hit | apply H.loop_ret | apply H.loop_exit)
              | (apply H.in_miss; exact rfl)
              | (apply H.gyes; (iterate 3 exact rfl); (first | assumption | omega))
              | (apply H.gno; (iterate 3 exact rfl); (first | assumption | omega))
              | (apply H.cond_yes; exact rfl; (first | assumption | omega))
              | (apply H.cond_no; exact rfl; (first | assumption | omega))
              | ((first | apply H.gtrue); (iterate 3 exact rfl); assumption)
              | (apply H.gfalse; (iterate 3 exact rfl); assumption)
              | (apply H.cond_t; exact rfl; assumption)
              | (apply H.cond_f; exact rfl; assumption))
              refine H.drop (.there _ (.here _ _)) ?_
              refine H.drop (.there _ (.here _ _)) ?_
              refine H.drop (.there _ (.here _ _)) ?_
              exact H.again (k + 1, s.stepS x) ⟨by omega, hw', hn'⟩ (by show xs.length - (k + 1) < xs.length - k; omega) ⟨rfl, rfl, rfl, trivial⟩ rfl rfl
          · cases hok : s.okS x with
            | false =>
              have hsx : s.stepS x = s := PM.stepS_no hok
              rw [hsx]
              repeat (
                first
                | ((first | apply H.move | apply H.assign | apply H.nilCheck | apply H.len_slice); (iterate 3 exact rfl))
                | (apply H.fieldAddr; (iterate 3 exact rfl); exact inferInstance; exact rfl)
                | (apply H.load1; (iterate 3 exact rfl); apply Rd1.ofRow; (repeat (first | exact .here _ _ _ | apply At.there)); (iterate 2 exact rfl))
                | (first | apply H.seq | apply H.region | apply H.nil | apply H.then_normal)
                | ((first | apply H.cmp | apply H.build); (iterate 5 exact rfl))
                | ((first | (apply H.ar; (iterate 4 exact rfl)) | (apply H.conv_int; (iterate 2 exact rfl))); (first | (apply wr_i64_s1; omega) | (apply wr_i64_n1; omega) | (apply wr_i64_nn; omega) | (apply wr_i64; omega) | (apply wr_u64; omega) | (apply wr_u8; omega) | (apply wr_u16; omega) | rfl); exact rfl)
                | (apply H.pass; (iterate 2 exact rfl))
                | (apply H.pass0; exact rfl)
                | (apply H.pickT; (iterate 4 exact rfl))
                | ((first | apply H.pickF | apply H.extract | apply H.not); (iterate 4 exact rfl))
                | ((first | apply H.ptrNil | apply H.sliceNil); (iterate 5 exact rfl))
                | (apply H.store1; (iterate 4 exact rfl); (repeat (first | exact .here _ _ _ | apply At.there)); (repeat (first | exact .here _ _ _ | apply SetV.there)))
                | (apply H.cond_true; exact rfl)
                | (apply H.cond_false; exact rfl)
                | (first | apply H.skip | apply H.ret | apply H.then_ret | apply H.then_exit | apply H.exit | apply H.block | apply H.in_normal | apply H.in_ret | apply H.in_hit | apply H.loop_ret | apply H.loop_exit)
                | (apply H.in_miss; exact rfl)
                | (apply H.gyes; (iterate 3 exact rfl); (first | assumption | omega))
                | (apply H.gno; (iterate 3 exact rfl); (first | assumption | omega))
                | (apply H.cond_yes; exact rfl; (first | assumption | omega))
                | (apply H.cond_no; exact rfl; (first | assumption | omega))
                | ((first | apply H.gtrue); (iterate 3 exact rfl); assumption)
                | (apply H.gfalse; (iterate 3 exact rfl); assumption)
                | (apply H.cond_t; exact rfl; assumption)
                | (apply H.cond_f; exact rfl; assumption))
              refine H.callR rfl rfl rfl (greatest_fn f _ b s) ?_
              repeat (
                first
                | ((first | apply H.move | apply H.assign | apply H.nilCheck | apply H.len_slice); (iterate 3 exact rfl))
                | (apply H.fieldAddr; (iterate 3 exact rfl); exact inferInstance; exact rfl)
                | (apply H.load1; (iterate 3 exact rfl); apply Rd1.ofRow; (repeat (first | exact .here _ _ _ | apply At.there)); (iterate 2 exact rfl))
                | (first | apply H.seq | apply H.region | apply H.nil | apply H.then_normal)
                | ((first | apply H.cmp | apply H.build); (iterate 5 exact rfl))
                | ((first | (apply H.ar; (iterate 4 exact rfl)) | (apply H.conv_int; (iterate 2 exact rfl))); (first | (apply wr_i64_s1; omega) | (apply wr_i64_n1; omega) | (apply wr_i64_nn; omega) | (apply wr_i64; omega) | (apply wr_u64; omega) | (apply wr_u8; omega) | (apply wr_u16; omega) | rfl); exact rfl)
                | (apply H.pass; (iterate 2 exact rfl))
                | (apply H.pass0; exact rfl)
                | (apply H.pickT; (iterate 4 exact rfl))
                | ((first | apply H.pickF | apply H.extract | apply H.not); (iterate 4 exact rfl))
                | ((first | apply H.ptrNil | apply H.sliceNil); (iterate 5 exact rfl))
                | (apply H.store1; (iterate 4 exact rfl); (repeat (first | exact .here _ _ _ | apply At.there)); (repeat (first | exact .here _ _ _ | apply SetV.there)))
                | (apply H.cond_true; exact rfl)
                | (apply H.cond_false; exact rfl)
                | (first | apply H.skip | apply H.ret | apply H.then_ret | apply H.then_exit | apply H.exit | apply H.block | apply H.in_normal | apply H.in_ret | apply H.in_hit | apply H.loop_ret | apply H.loop_exit)
                | (apply H.in_miss; exact rfl)
                | (apply H.gyes; (iterate 3 exact rfl); (first | assumption | omega))
                | (apply H.gno; (iterate 3 exact rfl); (first | assumption | omega))
                | (apply H.cond_yes; exact rfl; (first | assumption | omega))
                | (apply H.cond_no; exact rfl; (first | assumption | omega))
                | ((first | apply H.gtrue); (iterate 3 exact rfl); assumption)
                | (apply H.gfalse; (iterate 3 exact rfl); assumption)
                | (apply H.cond_t; exact rfl; assumption)
                | (apply H.cond_f; exact rfl; assumption))
              refine H.callR rfl rfl rfl (greatest_fn f _ b s) ?_
              repeat (
                first
                | ((first | apply H.move | apply H.assign | apply H.nilCheck | apply H.len_slice); (iterate 3 exact rfl))
                | (apply H.fieldAddr; (iterate 3 exact rfl); exact inferInstance; exact rfl)
                | (apply H.load1; (iterate 3 exact rfl); apply Rd1.ofRow; (repeat (first | exact .here _ _ _ | apply At.there)); (iterate 2 exact rfl))
                | (first | apply H.seq | apply H.region | apply H.nil | apply H.then_normal)
                | ((first | apply H.cmp | apply H.build); (iterate 5 exact rfl))
                | ((first | (apply H.ar; (iterate 4 exact rfl)) | (apply H.conv_int; (iterate 2 exact rfl))); (first | (apply wr_i64_s1; omega) | (apply wr_i64_n1; omega) | (apply wr_i64_nn; omega) | (apply wr_i64; omega) | (apply wr_u64; omega) | (apply wr_u8; omega) | (apply wr_u16; omega) | rfl); exact rfl)
                | (apply H.pass; (iterate 2 exact rfl))
                | (apply H.pass0; exact rfl)
                | (apply H.pickT; (iterate 4 exact rfl))
                | ((first | apply H.pickF | apply H.extract | apply H.not); (iterate 4 exact rfl))
                | ((first | apply H.ptrNil | apply H.sliceNil); (iterate 5 exact rfl))
                | (apply H.store1; (iterate 4 exact rfl); (repeat (first | exact .here _ _ _ | apply At.there)); (repeat (first | exact .here _ _ _ | apply SetV.there)))
                | (apply H.cond_true; exact rfl)
                | (apply H.cond_false; exact rfl)
                | (first | apply H.skip | apply H.ret | apply H.then_ret | apply H.then_exit | apply H.exit | apply H.block | apply H.in_normal | apply H.in_ret | apply H.in_hit | apply H.loop_ret | apply H.loop_exit)
                | (apply H.in_miss; exact rfl)
                | (apply H.gyes; (iterate 3 exact rfl); (first | assumption | omega))
                | (apply H.gno; (iterate 3 exact rfl); (first | assumption | omega))
                | (apply H.cond_yes; exact rfl; (first | assumption | omega))
                | (apply H.cond_no; exact rfl; (first | assumption | omega))
                | ((first | apply H.gtrue); (iterate 3 exact rfl); assumption)
                | (apply H.gfalse; (iterate 3 exact rfl); assumption)
                | (apply H.cond_t; exact rfl; assumption)
                | (apply H.cond_f; exact rfl; assumption))
              refine H.know (d := 94) (u := .bool false) rfl (by rw [decide_eq_false (by omega)]) ?_
              exact H.meet () trivial ⟨rfl, rfl, rfl, rfl, rfl, rfl, rfl, rfl, rfl, trivial⟩ rfl rfl
            | true =>
              repeat (
                first
                | ((first | apply H.move | apply H.assign | apply H.nilCheck | apply H.len_slice); (iterate 3 exact rfl))
                | (apply H.fieldAddr; (iterate 3 exact rfl); exact inferInstance; exact rfl)
                | (apply H.load1; (iterate 3 exact rfl); apply Rd1.ofRow; (repeat (first | exact .here _ _ _ | apply At.there)); (iterate 2 exact rfl))
                | (first | apply H.seq | apply H.region | apply H.nil | apply H.then_normal)
                | ((first | apply H.cmp | apply H.build); (iterate 5 exact rfl))
                | ((first | (apply H.ar; (iterate 4 exact rfl)) | (apply H.conv_int; (iterate 2 exact rfl))); (first | (apply wr_i64_s1; omega) | (apply wr_i64_n1; omega) | (apply wr_i64_nn; omega) | (apply wr_i64; omega) | (apply wr_u64; omega) | (apply wr_u8; omega) | (apply wr_u16; omega) | rfl); exact rfl)
                | (apply H.pass; (iterate 2 exact rfl))
                | (apply H.pass0; exact rfl)
                | (apply H.pickT; (iterate 4 exact rfl))
                | ((first | apply H.pickF | apply H.extract | apply H.not); (iterate 4 exact rfl))
                | ((first | apply H.ptrNil | apply H.sliceNil); (iterate 5 exact rfl))
                | (apply H.store1; (iterate 4 exact rfl); (repeat (first | exact .here _ _ _ | apply At.there)); (repeat (first | exact .here _ _ _ | apply SetV.there)))
                | (apply H.cond_true; exact rfl)
                | (apply H.cond_false; exact rfl)
                | (first | apply H.skip | apply H.ret | apply H.then_ret | apply H.then_exit | apply H.exit | apply H.block | apply H.in_normal | apply H.in_ret | apply H.in_hit | apply H.loop_ret | apply H.loop_exit)
                | (apply H.in_miss; exact rfl)
                | (apply H.gyes; (iterate 3 exact rfl); (first | assumption | omega))
                | (apply H.gno; (iterate 3 exact rfl); (first | assumption | omega))
                | (apply H.cond_yes; exact rfl; (first | assumption | omega))
                | (apply H.cond_no; exact rfl; (first | assumption | omega))
                | ((first | apply H.gtrue); (iterate 3 exact rfl); assumption)
                | (apply H.gfalse; (iterate 3 exact rfl); assumption)
                | (apply H.cond_t; exact rfl; assumption)
                | (apply H.cond_f; exact rfl; assumption))
              refine H.callR rfl rfl rfl (greatest_fn f _ b (s.stepS x)) ?_
              repeat (
                first
                | ((first | apply H.move | apply H.assign | apply H.nilCheck | apply H.len_slice); (iterate 3 exact rfl))
                | (apply H.fieldAddr; (iterate 3 exact rfl); exact inferInstance; exact rfl)
                | (apply H.load1; (iterate 3 exact rfl); apply Rd1.ofRow; (repeat (first | exact .here _ _ _ | apply At.there)); (iterate 2 exact rfl))
                | (first | apply H.seq | apply H.region | apply H.nil | apply H.then_normal)
                | ((first | apply H.cmp | apply H.build); (iterate 5 exact rfl))
                | ((first | (apply H.ar; (iterate 4 exact rfl)) | (apply H.conv_int; (iterate 2 exact rfl))); (first | (apply wr_i64_s1; omega) | (apply wr_i64_n1; omega) | (apply wr_i64_nn; omega) | (apply wr_i64; omega) | (apply wr_u64; omega) | (apply wr_u8; omega) | (apply wr_u16; omega) | rfl); exact rfl)
                | (apply H.pass; (iterate 2 exact rfl))
                | (apply H.pass0; exact rfl)
                | (apply H.pickT; (iterate 4 exact rfl))
                | ((first | apply H.pickF | apply H.extract | apply H.not); (iterate 4 exact rfl))
                | ((first | apply H.ptrNil | apply H.sliceNil); (iterate 5 exact rfl))
                | (apply H.store1; (iterate 4 exact rfl); (repeat (first | exact .here _ _ _ | apply At.there)); (repeat (first | exact .here _ _ _ | apply SetV.there)))
                | (apply H.cond_true; exact rfl)
                | (apply H.cond_false; exact rfl)
                | (first | apply H.skip | apply H.ret | apply H.then_ret | apply H.then_exit | apply H.exit | apply H.block | apply H.in_normal | apply H.in_ret | apply H.in_hit | apply H.loop_ret | apply H.loop_exit)
                | (apply H.in_miss; exact rfl)
                | (apply H.gyes; (iterate 3 exact rfl); (first | assumption | omega))
                | (apply H.gno; (iterate 3 exact rfl); (first | assumption | omega))
                | (apply H.cond_yes; exact rfl; (first | assumption | omega))
                | (apply H.cond_no; exact rfl; (first | assumption | omega))
                | ((first | apply H.gtrue); (iterate 3 exact rfl); assumption)
                | (apply H.gfalse; (iterate 3 exact rfl); assumption)
                | (apply H.cond_t; exact rfl; assumption)
                | (apply H.cond_f; exact rfl; assumption))
              refine H.know (d := 94) (u := .bool false) rfl (by rw [decide_eq_false (by omega)]) ?_
              exact H.meet () trivial ⟨rfl, rfl, rfl, rfl, rfl, rfl, rfl, rfl, rfl, trivial⟩ rfl rfl
    · repeat (
      first
      | ((first | apply H.move | apply H.assign | apply H.nilCheck | apply H.len_slice); (iterate 3 exact rfl))
      | (apply H.fieldAddr; (iterate 3 exact rfl); exact inferInstance; exact rfl)
      | (apply H.load1; (iterate 3 exact rfl); apply Rd1.ofRow; (repeat (first | exact .here _ _ _ | apply At.there)); (iterate 2 exact rfl))
      | (first | apply H.seq | apply H.region | apply H.nil | apply H.then_normal)
      | ((first | apply H.cmp | apply H.build); (iterate 5 exact rfl))
      | ((first | (apply H.ar; (iterate 4 exact rfl)) | (apply H.conv_int; (iterate 2 exact rfl))); (first | (apply wr_i64_s1; omega) | (apply wr_i64_n1; omega) | (apply wr_i64_nn; omega) | (apply wr_i64; omega) | (apply wr_u64; omega) | (apply wr_u8; omega) | (apply wr_u16; omega) | rfl); exact rfl)
      | (apply H.pass; (iterate 2 exact rfl))
      | (apply H.pass0; exact rfl)
      | (apply H.pickT; (iterate 4 exact rfl))
      | ((first | apply H.pickF | apply H.extract | apply H.not); (iterate 4 exact rfl))
      | ((first | apply H.ptrNil | apply H.sliceNil); (iterate 5 exact rfl))
      | (apply H.store1; (iterate 4 exact rfl); (repeat (first | exact .here _ _ _ | apply At.there)); (repeat (first | exact .here _ _ _ | apply SetV.there)))
      | (apply H.cond_true; exact rfl)
      | (apply H.cond_false; exact rfl)
      | (first | apply H.skip | apply H.ret | apply H.then_ret | apply H.then_exit | apply H.exit | apply H.block | apply H.in_normal | apply H.in_ret | apply H.in_hit | apply H.loop_ret | apply H.loop_exit)
      | (apply H.in_miss; exact rfl)
      | (apply H.gyes; (iterate 3 exact rfl); (first | assumption | omega))
      | (apply H.gno; (iterate 3 exact rfl); (first | assumption | omega))
      | (apply H.cond_yes; exact rfl; (first | assumption | omega))
      | (apply H.cond_no; exact rfl; (first | assumption | omega))
      | ((first | apply H.gtrue); (iterate 3 exact rfl); assumption)
      | (apply H.gfalse; (iterate 3 exact rfl); assumption)
      | (apply H.cond_t; exact rfl; assumption)
      | (apply H.cond_f; exact rfl; assumption))
      refine H.callR rfl rfl rfl (works_fn f _) ?_
      repeat (
        first
        | ((first | apply H.move | apply H.assign | apply H.nilCheck | apply H.len_slice); (iterate 3 exact rfl))
        | (apply H.fieldAddr; (iterate 3 exact rfl); exact inferInstance; exact rfl)
        | (apply H.load1; (iterate 3 exact rfl); apply Rd1.ofRow; (repeat (first | exact .here _ _ _ | apply At.there)); (iterate 2 exact rfl))
        | (first | apply H.seq | apply H.region | apply H.nil | apply H.then_normal)
        | ((first | apply H.cmp | apply H.build); (iterate 5 exact rfl))
        | ((first | (apply H.ar; (iterate 4 exact rfl)) | (apply H.conv_int; (iterate 2 exact rfl))); (first | (apply wr_i64_s1; omega) | (apply wr_i64_n1; omega) | (apply wr_i64_nn; omega) | (apply wr_i64; omega) | (apply wr_u64; omega) | (apply wr_u8; omega) | (apply wr_u16; omega) | rfl); exact rfl)
        | (apply H.pass; (iterate 2 exact rfl))
        | (apply H.pass0; exact rfl)
        | (apply H.pickT; (iterate 4 exact rfl))
        | ((first | apply H.pickF | apply H.extract | apply H.not); (iterate 4 exact rfl))
        | ((first | apply H.ptrNil | apply H.sliceNil); (iterate 5 exact rfl))
        | (apply H.store1; (iterate 4 exact rfl); (repeat (first | exact .here _ _ _ | apply At.there)); (repeat (first | exact .here _ _ _ | apply SetV.there)))
        | (apply H.cond_true; exact rfl)
        | (apply H.cond_false; exact rfl)
        | (first | apply H.skip | apply H.ret | apply H.then_ret | apply H.then_exit | apply H.exit | apply H.block | apply H.in_normal | apply H.in_ret | apply H.in_hit | apply H.loop_ret | apply H.loop_exit)
        | (apply H.in_miss; exact rfl)
        | (apply H.gyes; (iterate 3 exact rfl); (first | assumption | omega))
        | (apply H.gno; (iterate 3 exact rfl); (first | assumption | omega))
        | (apply H.cond_yes; exact rfl; (first | assumption | omega))
        | (apply H.cond_no; exact rfl; (first | assumption | omega))
        | ((first | apply H.gtrue); (iterate 3 exact rfl); assumption)
        | (apply H.gfalse; (iterate 3 exact rfl); assumption)
        | (apply H.cond_t; exact rfl; assumption)
        | (apply H.cond_f; exact rfl; assumption))
      refine H.drop (.here _ _) ?_
      exact H.ret1 rfl rfl (fun _ h => h) ⟨rfl, rfl, rfl⟩
end
end Go.Proofs.Ytfplfddobjbbnaa
