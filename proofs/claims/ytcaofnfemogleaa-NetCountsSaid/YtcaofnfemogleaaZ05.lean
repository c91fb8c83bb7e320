/- Parts of the proof, one behind the other, each under its own heading. No conditions. -/
import Derived.Test.YtcaofnfemogleaaZ04
/- Layer 8, messages: may a message be? (the program) -/
namespace Go.Proofs.Ytcaofnfemogleaa
set_option linter.unusedSectionVars false
set_option linter.unusedSimpArgs false
set_option linter.unusedVariables false
open Go
theorem v11_get (d : Nat → Int) {i : Nat} (h : i < 11) : (v11 d)[i]? = some (.int .u64 (d i)) := by
  match i, h with
  | 0, _ => rfl
  | 1, _ => rfl
  | 2, _ => rfl
  | 3, _ => rfl
  | 4, _ => rfl
  | 5, _ => rfl
  | 6, _ => rfl
  | 7, _ => rfl
  | 8, _ => rfl
  | 9, _ => rfl
  | 10, _ => rfl
/-- The greatest of the first ones. -/
def maxTo (d : Nat → Int) : Nat → Int
  | 0 => d 0
  | i + 1 => if maxTo d i < d (i + 1) then d (i + 1) else maxTo d i
theorem maxTo_le (d : Nat → Int) (B : Int) : ∀ n, maxTo d n ≤ B ↔ ∀ i, i ≤ n → d i ≤ B
  | 0 => ⟨fun h i hi => by rw [show i = 0 by omega]; exact h, fun h => h 0 (Nat.le_refl _)⟩
  | n + 1 => by
    have ih := maxTo_le d B n
    unfold maxTo
    constructor
    · intro h i hi
      by_cases e : i = n + 1
      · subst e; split at h <;> omega
      · exact ih.1 (by split at h <;> omega) i (by omega)
    · intro h
      have h1 := ih.2 fun i hi => h i (by omega)
      have h2 := h (n + 1) (Nat.le_refl _)
      split <;> omega
theorem msg_deps {f : Frag} {A A' : List HP} {mb : Nat} {T : TypeId} {m : Msg} {q : Option Addr} {qc : Nat} (h : At A (row mb T (m.vals q qc)) A' (row mb T (m.vals q qc))) : Rd f A mb (0 + 2) (v11 m.deps) := by
  have h1 := Rd.ofRow (f := f) h
  have e : m.vals q qc = [.int .i64 m.origin, .int .u64 m.number] ++ v11 m.deps ++ (m.body.vals q qc ++ b32 m.tag) := by unfold Msg.vals; simp only [List.append_assoc]
  rw [e] at h1
  exact h1.sub rfl
theorem msg_body {f : Frag} {A A' : List HP} {mb : Nat} {T : TypeId} {m : Msg} {q : Option Addr} {qc : Nat} (h : At A (row mb T (m.vals q qc)) A' (row mb T (m.vals q qc))) : Rd f A mb (0 + 13) (m.body.vals q qc) := by
  have h1 := Rd.ofRow (f := f) h
  have e : m.vals q qc = ([.int .i64 m.origin, .int .u64 m.number] ++ v11 m.deps) ++ m.body.vals q qc ++ b32 m.tag := rfl
  rw [e] at h1
  exact h1.sub rfl
section
variable (f : Frag) (F : List HP)
theorem max_fn {b off : Nat} {d : Nat → Int} (hr : Rd f F b off (v11 d)) :
    Fn Try.prog 37 [.slice (some ⟨b, off, none⟩) 11 11] f F (Ret (.int .u64 (maxTo d 10)) f F) := by
  refine Fn.enter Try.func37 rfl Try.ntmps37 rfl (L := [(0, _)]) ⟨rfl, trivial⟩ fun base => ?_
  repeat (first | ((first | apply H.move | apply H.assign | apply H.len_slice); (iterate 3 exact rfl)) | (first | apply H.seq | apply H.region | apply H.nil | apply H.then_normal) | ((apply H.cmp); (iterate 5 exact rfl)) | (apply H.cond_false; exact rfl) | (apply H.skip))
  refine H.index1 (i := 0) rfl rfl rfl rfl (by decide) rfl ?_
  refine H.load1 rfl rfl rfl (.of hr (i := 0) rfl) rfl ?_
  repeat (first | ((apply H.assign); (iterate 3 exact rfl)) | (first | apply H.seq | apply H.region | apply H.nil | apply H.then_normal) | (apply H.block))
  refine H.loop (ι := Nat) (fun i => [(4, .int .i64 ((i + 1 : Nat) : Int)), (3, .int .u64 (maxTo d i)), (0, .slice (some ⟨b, off, none⟩) 11 11)]) (fun _ => f) (fun _ => F) (fun i => i ≤ 10) (fun i => 10 - i) 0 (Nat.zero_le _) ⟨rfl, rfl, rfl, trivial⟩ rfl rfl fun i hi => ?_
  have hi : i ≤ 10 := hi
  by_cases hlt : i < 10
  · repeat (first | ((first | apply H.move | apply H.assign | apply H.nilCheck | apply H.len_slice | apply H.len_string | apply H.cap_slice); (iterate 3 exact rfl)) | (apply H.fieldAddr; (iterate 3 exact rfl); exact inferInstance; exact rfl) | (apply H.load1; (iterate 3 exact rfl); apply Rd1.ofRow; (repeat (first | exact .here _ _ _ | apply At.there)); (iterate 2 exact rfl)) | (first | apply H.seq | apply H.region | apply H.nil | apply H.then_normal) | ((first | apply H.cmp | apply H.build); (iterate 5 exact rfl)) | ((first | (apply H.ar; (iterate 4 exact rfl)) | (apply H.conv_int; (iterate 2 exact rfl))); (first | (with_reducible apply wr_i64_s1; omega) | (with_reducible apply wr_i64_n1; omega) | (with_reducible apply wr_i64_nn; omega) | (with_reducible apply wr_i64; omega) | (with_reducible apply wr_u64; omega) | (with_reducible apply wr_u8; omega) | (with_reducible apply wr_u16; omega) | rfl); exact rfl) | (apply H.pass; (iterate 2 exact rfl)) | (apply H.pass0; exact rfl) | (apply H.pickT; (iterate 4 exact rfl)) | ((first | apply H.pickF | apply H.extract | apply H.not | apply H.makeFunc); (iterate 4 exact rfl)) | ((first | apply H.ptrNil | apply H.sliceNil); (iterate 5 exact rfl)) | (apply H.store1; (iterate 4 exact rfl); (repeat (first | exact .here _ _ _ | apply At.there)); (repeat (first | exact .here _ _ _ | apply SetV.there))) | (apply H.cond_true; exact rfl) | (apply H.cond_false; exact rfl) | (first | apply H.skip | apply H.ret | apply H.then_ret | apply H.then_exit | apply H.exit | apply H.block | apply H.in_normal | apply H.in_ret | apply H.in_hit | apply H.loop_ret | apply H.loop_exit) | (apply H.in_miss; exact rfl) | (apply H.gyes; (iterate 3 exact rfl); (first | assumption | omega)) | (apply H.gno; (iterate 3 exact rfl); (first | assumption | omega)) | (apply H.cond_yes; exact rfl; (first | assumption | omega)) | (apply H.cond_no; exact rfl; (first | assumption | omega)) | ((first | apply H.gtrue); (iterate 3 exact rfl); assumption) | (apply H.gfalse; (iterate 3 exact rfl); assumption) | (apply H.cond_t; exact rfl; assumption) | (apply H.cond_f; exact rfl; assumption))
    refine H.index1 (i := i + 1) rfl rfl rfl rfl (by omega) rfl ?_
    refine H.load1 rfl rfl rfl (.of hr (v11_get d (by omega))) rfl ?_
    refine H.max2 (z := maxTo d (i + 1)) rfl rfl rfl rfl rfl ?_
    repeat (first | ((first | apply H.move | apply H.assign); (iterate 3 exact rfl)) | (first | apply H.region | apply H.nil | apply H.then_normal) | ((apply H.ar; (iterate 4 exact rfl)); (with_reducible apply wr_i64_n1; omega); exact rfl) | (apply H.in_normal))
    exact H.again (i + 1) (by show i + 1 ≤ 10; omega) (by show 10 - (i + 1) < 10 - i; omega) ⟨rfl, rfl, rfl, trivial⟩ rfl rfl
  · have : i = 10 := by omega
    subst this
    repeat (first | ((first | apply H.move | apply H.assign | apply H.len_slice); (iterate 3 exact rfl)) | (first | apply H.seq | apply H.region | apply H.nil | apply H.then_normal) | ((apply H.cmp); (iterate 5 exact rfl)) | (apply H.cond_false; exact rfl) | (first | apply H.ret | apply H.then_exit | apply H.exit | apply H.in_hit | apply H.loop_exit))
    exact H.ret1 rfl rfl (fun _ h => h) ⟨rfl, rfl, rfl⟩
theorem body_none {x : Bod} {q : Option Addr} {qc : Nat} (hcod : getKV codecsM (x.kind.toNat : Int) = none) :
    Fn Try.prog 38 [.agg (x.vals q qc).toArray] f F (Ret (.bool false) f F) := by
  refine Fn.enter Try.func38 rfl Try.ntmps38 rfl (L := [(0, _)]) ⟨rfl, trivial⟩ fun base => ?_
  repeat ((first | apply H.seq | apply H.region))
  refine H.box (ls := x.vals q qc) rfl rfl rfl rfl fun xb => ?_
  repeat (first | ((apply H.assign); (iterate 3 exact rfl)) | (first | apply H.seq | apply H.nil | apply H.then_normal))
  have hz : (getKV codecsM (x.kind.toNat : Int)).getD (.agg ([.nilFunc, .nilFunc, .nilFunc] : List Value).toArray) = .agg ([.nilFunc, .nilFunc, .nilFunc] : List Value).toArray := by rw [hcod]; rfl
  have hi : (getKV codecsM (x.kind.toNat : Int)).isSome = false := by rw [hcod]; rfl
  refine H.cut (ι := Nat) (fun i => [(1, .pointer (some ⟨xb, 0, none⟩)), (3, .pointer (some ⟨i, 0, none⟩)), (4, .bool false)]) (fun _ => f) (fun i => row i 92 [.nilFunc, .nilFunc, .nilFunc] :: row xb 59 (x.vals q qc) :: F) (fun _ => True) _ (fun i _ => ?_) ?_
  · repeat (first | ((first | apply H.move | apply H.assign | apply H.nilCheck | apply H.len_slice | apply H.len_string | apply H.cap_slice); (iterate 3 exact rfl)) | (apply H.fieldAddr; (iterate 3 exact rfl); exact inferInstance; exact rfl) | (apply H.load1; (iterate 3 exact rfl); apply Rd1.ofRow; (repeat (first | exact .here _ _ _ | apply At.there)); (iterate 2 exact rfl)) | (first | apply H.seq | apply H.region | apply H.nil | apply H.then_normal) | ((first | apply H.cmp | apply H.build); (iterate 5 exact rfl)) | ((first | (apply H.ar; (iterate 4 exact rfl)) | (apply H.conv_int; (iterate 2 exact rfl))); (first | (with_reducible apply wr_i64_s1; omega) | (with_reducible apply wr_i64_n1; omega) | (with_reducible apply wr_i64_nn; omega) | (with_reducible apply wr_i64; omega) | (with_reducible apply wr_u64; omega) | (with_reducible apply wr_u8; omega) | (with_reducible apply wr_u16; omega) | rfl); exact rfl) | (apply H.pass; (iterate 2 exact rfl)) | (apply H.pass0; exact rfl) | (apply H.pickT; (iterate 4 exact rfl)) | ((first | apply H.pickF | apply H.extract | apply H.not | apply H.makeFunc); (iterate 4 exact rfl)) | ((first | apply H.ptrNil | apply H.sliceNil); (iterate 5 exact rfl)) | (apply H.store1; (iterate 4 exact rfl); (repeat (first | exact .here _ _ _ | apply At.there)); (repeat (first | exact .here _ _ _ | apply SetV.there))) | (apply H.cond_true; exact rfl) | (apply H.cond_false; exact rfl) | (first | apply H.skip | apply H.ret | apply H.then_ret | apply H.then_exit | apply H.exit | apply H.block | apply H.in_normal | apply H.in_ret | apply H.in_hit | apply H.loop_ret | apply H.loop_exit) | (apply H.in_miss; exact rfl) | (apply H.gyes; (iterate 3 exact rfl); (first | assumption | omega)) | (apply H.gno; (iterate 3 exact rfl); (first | assumption | omega)) | (apply H.cond_yes; exact rfl; (first | assumption | omega)) | (apply H.cond_no; exact rfl; (first | assumption | omega)) | ((first | apply H.gtrue); (iterate 3 exact rfl); assumption) | (apply H.gfalse; (iterate 3 exact rfl); assumption) | (apply H.cond_t; exact rfl; assumption) | (apply H.cond_f; exact rfl; assumption))
    repeat refine H.drop (.here _ _) ?_
    exact H.ret1 rfl rfl (fun _ h => h) ⟨rfl, rfl, rfl⟩
  · refine H.drawB (by kernel_rfl) (by decide +kernel) (by first | exact blind_fn | exact blind_seq blind_fn | exact blind_seq (blind_seq blind_fn) | (repeat (first | exact blind_fn | refine blind_seq ?_ | refine blind_block ?_ | refine blind_loop ?_))) (S := [_]) rfl ?_
    refine HB.quiet [(1, false), (2, false)] 8 (by kernel_rfl) ?_
    repeat (first | (apply HQ.fieldAddr; (iterate 3 exact rfl); exact inferInstance; exact rfl) | (apply HQ.load1; (iterate 3 exact rfl); apply Rd1.ofRow; (repeat (exact .here _ _ _)); (iterate 2 exact rfl)))
    refine HQ.more rfl ?_
    refine HB.ev2 (i := 0) (j := 7) (by kernel_rfl) rfl rfl ?_ ?_
    · refine H.callE rfl rfl rfl (codecs_fn f _) fun mb => ?_
      repeat ((apply H.nil))
      refine H.front (.there _ (.here _ _)) ?_
      refine H.on [_] (Le.refl _) rfl ?_
      refine HB.quiet [(3, false), (4, false), (5, false), (6, false)] 3 (by kernel_rfl) ?_
      refine HQ.lookup2 (enc := encU8) (k := (x.kind.toNat : Int)) rfl rfl rfl (by repeat (first | exact .here _ _ _ | apply At.there)) rfl hz hi rfl ?_
      repeat (first | ((apply HQ.move); (iterate 3 exact rfl)) | ((apply HQ.extract); (iterate 4 exact rfl)))
      refine HQ.more rfl ?_
      refine HB.ev1 (i := 7) (by kernel_rfl) rfl ?_
      refine H.alloc (ls := [.nilFunc, .nilFunc, .nilFunc]) rfl rfl rfl fun vb => ?_
      repeat ((apply H.nil))
      refine H.front (.there _ (.there _ (.here _ _))) ?_
      refine H.front (.there _ (.there _ (.here _ _))) ?_
      refine H.on0 rfl ?_
      refine HB.ev1 (i := 8) (by kernel_rfl) rfl ?_
      refine H.storeN (ls := [.nilFunc, .nilFunc, .nilFunc]) (vs := [.nilFunc, .nilFunc, .nilFunc]) (ls' := [.nilFunc, .nilFunc, .nilFunc]) rfl rfl rfl (allOne_mem rfl) rfl rfl (Nat.le_refl 3) (by repeat (first | exact .here _ _ _ | apply At.there)) ?_
      repeat ((apply H.nil))
      refine H.on0 rfl ?_
      refine HB.quiet [(9, false)] 0 (by kernel_rfl) ?_
      repeat (((apply HQ.assign); (iterate 3 exact rfl)))
      refine HQ.more rfl ?_
      refine HB.done (by kernel_rfl) ?_
      refine H.drop (.there _ (.here _ _)) ?_
      refine H.front (.there _ (.here _ _)) ?_
      exact H.meet vb trivial ⟨rfl, rfl, rfl, trivial⟩ rfl rfl
    · refine H.alloc (ls := [.nilFunc, .nilFunc, .nilFunc]) rfl rfl rfl fun vb => ?_
      repeat ((apply H.nil))
      refine H.front (.there _ (.here _ _)) ?_
      refine H.on0 rfl ?_
      refine HB.ev1 (i := 0) (by kernel_rfl) rfl ?_
      refine H.callE rfl rfl rfl (codecs_fn f _) fun mb => ?_
      repeat ((apply H.nil))
      refine H.front (.there _ (.here _ _)) ?_
      refine H.on [_] (Le.refl _) rfl ?_
      refine HB.quiet [(3, false), (4, false), (5, false), (6, false)] 2 (by kernel_rfl) ?_
      refine HQ.lookup2 (enc := encU8) (k := (x.kind.toNat : Int)) rfl rfl rfl (by repeat (first | exact .here _ _ _ | apply At.there)) rfl hz hi rfl ?_
      repeat (first | ((apply HQ.move); (iterate 3 exact rfl)) | ((apply HQ.extract); (iterate 4 exact rfl)))
      refine HQ.more rfl ?_
      refine HB.ev1 (i := 8) (by kernel_rfl) rfl ?_
      refine H.storeN (ls := [.nilFunc, .nilFunc, .nilFunc]) (vs := [.nilFunc, .nilFunc, .nilFunc]) (ls' := [.nilFunc, .nilFunc, .nilFunc]) rfl rfl rfl (allOne_mem rfl) rfl rfl (Nat.le_refl 3) (by repeat (first | exact .here _ _ _ | apply At.there)) ?_
      repeat ((apply H.nil))
      refine H.on0 rfl ?_
      refine HB.quiet [(9, false)] 0 (by kernel_rfl) ?_
      repeat (((apply HQ.assign); (iterate 3 exact rfl)))
      refine HQ.more rfl ?_
      refine HB.done (by kernel_rfl) ?_
      refine H.drop (.there _ (.here _ _)) ?_
      refine H.front (.there _ (.here _ _)) ?_
      exact H.meet vb trivial ⟨rfl, rfl, rfl, trivial⟩ rfl rfl
/-- May a body be, as the program asks it? -/
def Bod.mayB (x : Bod) : Bool := decide (1 ≤ x.kind.toNat ∧ x.kind.toNat ≤ 6) && x.mayP x.kind.toNat
theorem bodyP_fn {x : Bod} {q : Option Addr} {qc : Nat} (hq : QAt f q x.q) (hl : x.q.length ≤ 1000000000) :
    Fn Try.prog 38 [.agg (x.vals q qc).toArray] f F (Ret (.bool x.mayB) f F) := by
  unfold Bod.mayB
  generalize hk : x.kind.toNat = kind
  match kind, hk with
  | 1, hk => exact body_fn f F 1 hk _ _ _ put1 get1 may1 (by rfl) hq hl
  | 2, hk => exact body_fn f F 2 hk _ _ _ put2 get2 may2 (by rfl) hq hl
  | 3, hk => exact body_fn f F 3 hk _ _ _ put3 get3 may3 (by rfl) hq hl
  | 4, hk => exact body_fn f F 4 hk _ _ _ put4 get4 may4 (by rfl) hq hl
  | 5, hk => exact body_fn f F 5 hk _ _ _ put5 get5 may5 (by rfl) hq hl
  | 6, hk => exact body_fn f F 6 hk _ _ _ put6 get6 may6 (by rfl) hq hl
  | 0, hk =>
    rw [decide_eq_false (by omega), Bool.false_and]
    exact body_none f F (by rw [hk]; rfl)
  | k + 7, hk =>
    rw [decide_eq_false (by omega), Bool.false_and]
    refine body_none f F ?_
    rw [hk]
    refine (getKV_none codecsM _).2 ?_
    simp only [codecsM, List.map_cons, List.map_nil, List.mem_cons, List.not_mem_nil, or_false]
    omega
/-- May a message be, but for its body? -/
def Msg.outer (m : Msg) : Prop := 1 ≤ m.origin ∧ m.origin ≤ 11 ∧ 1 ≤ m.number ∧ m.number ≤ 65536 ∧ m.deps (m.origin.toNat - 1) = m.number - 1 ∧ maxTo m.deps 10 ≤ 65536
instance (m : Msg) : Decidable m.outer := by unfold Msg.outer; infer_instance
theorem may_fn {m : Msg} {q : Option Addr} {qc : Nat} (hq : QAt f q m.body.q) (hl : m.body.q.length ≤ 1000000000) :
    Fn Try.prog 30 [.agg (m.vals q qc).toArray] f F (Ret (.bool (decide m.outer && m.body.mayB)) f F) := by
  by_cases h1 : 1 ≤ m.origin
  · skip
    by_cases h2 : m.origin ≤ 11
    · skip
      by_cases h3 : 1 ≤ m.number
      · skip
        by_cases h4 : m.number ≤ 65536
        · skip
          by_cases h5 : m.deps (m.origin.toNat - 1) = m.number - 1
          · skip
            by_cases h6 : maxTo m.deps 10 ≤ 65536
            · skip
              try simp only [Bool.not_eq_true] at *
              refine Fn.enter Try.func30 rfl Try.ntmps30 rfl (L := [(0, _)]) ⟨rfl, trivial⟩ fun base => ?_
              repeat ((first | apply H.seq | apply H.region))
              refine H.box (ls := m.vals q qc) rfl rfl rfl rfl fun mb => ?_
              repeat (first | ((apply H.assign); (iterate 3 exact rfl)) | (first | apply H.seq | apply H.nil | apply H.then_normal))
              refine H.drawQ (by kernel_rfl) (by decide +kernel) (by first | exact blind_fn | exact blind_seq blind_fn | exact blind_seq (blind_seq blind_fn) | (repeat (first | exact blind_fn | refine blind_seq ?_ | refine blind_block ?_ | refine blind_loop ?_))) ?_
              repeat (first | ((apply HQ.move); (iterate 3 exact rfl)) | (apply HQ.fieldAddr; (iterate 3 exact rfl); exact inferInstance; exact rfl) | (apply HQ.load1; (iterate 3 exact rfl); apply Rd1.ofRow; (repeat (exact .here _ _ _)); (iterate 2 exact rfl)) | ((apply HQ.done0); exact rfl) | ((apply HQ.cmp); (iterate 5 exact rfl)) | ((apply HQ.ar; (iterate 4 exact rfl)); (first | (with_reducible apply wr_i64; omega) | (with_reducible apply wr_u64; omega)); exact rfl) | ((apply HQ.pickF); (iterate 4 exact rfl)) | (apply HQ.gno; (iterate 3 exact rfl); (omega)) | (refine HQ.index_array (i := (m.origin.toNat - 1)) rfl rfl rfl (by omega) (by omega) rfl ?_) | (refine HQ.load1 rfl rfl rfl (.of (msg_deps (by repeat (first | exact .here _ _ _ | apply At.there))) (by rw [Nat.mul_one]; exact v11_get m.deps (by omega))) rfl ?_))
              repeat (first | ((first | apply H.move | apply H.assign); (iterate 3 exact rfl)) | (apply H.fieldAddr; (iterate 3 exact rfl); exact inferInstance; exact rfl) | (first | apply H.seq | apply H.region | apply H.nil | apply H.then_normal) | ((apply H.cmp); (iterate 5 exact rfl)) | (apply H.pickT; (iterate 4 exact rfl)) | (first | apply H.skip | apply H.ret) | (apply H.gyes; (iterate 3 exact rfl); (assumption)) | (apply H.cond_no; exact rfl; (omega)) | (refine H.sliceArr (lo := none) (hi := none) (mx := none) (lv := 0) (hv := 11) (mv := 11) rfl rfl rfl rfl rfl (fun h => by cases h) (by decide) (by decide) (by decide) rfl ?_) | (refine H.callR rfl rfl rfl (max_fn f _ (off := 0 + 2) (d := m.deps) (msg_deps (by repeat (first | exact .here _ _ _ | apply At.there)))) ?_) | (refine H.loadN (ls := m.body.vals q qc) rfl rfl rfl (msg_body (by repeat (first | exact .here _ _ _ | apply At.there))) rfl rfl ?_) | (refine H.callR rfl rfl rfl (bodyP_fn f _ hq hl) ?_))
              refine H.drop (.here _ _) ?_
              refine H.ret1 rfl rfl (fun _ h => h) ⟨?_, rfl, rfl⟩
              simp [Msg.outer, *]
            · skip
              try simp only [Bool.not_eq_true] at *
              refine Fn.enter Try.func30 rfl Try.ntmps30 rfl (L := [(0, _)]) ⟨rfl, trivial⟩ fun base => ?_
              repeat ((first | apply H.seq | apply H.region))
              refine H.box (ls := m.vals q qc) rfl rfl rfl rfl fun mb => ?_
              repeat (first | ((apply H.assign); (iterate 3 exact rfl)) | (first | apply H.seq | apply H.nil | apply H.then_normal))
              refine H.drawQ (by kernel_rfl) (by decide +kernel) (by first | exact blind_fn | exact blind_seq blind_fn | exact blind_seq (blind_seq blind_fn) | (repeat (first | exact blind_fn | refine blind_seq ?_ | refine blind_block ?_ | refine blind_loop ?_))) ?_
              repeat (first | ((apply HQ.move); (iterate 3 exact rfl)) | (apply HQ.fieldAddr; (iterate 3 exact rfl); exact inferInstance; exact rfl) | (apply HQ.load1; (iterate 3 exact rfl); apply Rd1.ofRow; (repeat (exact .here _ _ _)); (iterate 2 exact rfl)) | ((apply HQ.done0); exact rfl) | ((apply HQ.cmp); (iterate 5 exact rfl)) | ((apply HQ.ar; (iterate 4 exact rfl)); (first | (with_reducible apply wr_i64; omega) | (with_reducible apply wr_u64; omega)); exact rfl) | ((apply HQ.pickF); (iterate 4 exact rfl)) | (apply HQ.gno; (iterate 3 exact rfl); (omega)) | (refine HQ.index_array (i := (m.origin.toNat - 1)) rfl rfl rfl (by omega) (by omega) rfl ?_) | (refine HQ.load1 rfl rfl rfl (.of (msg_deps (by repeat (first | exact .here _ _ _ | apply At.there))) (by rw [Nat.mul_one]; exact v11_get m.deps (by omega))) rfl ?_))
              repeat (first | ((first | apply H.move | apply H.assign); (iterate 3 exact rfl)) | (apply H.fieldAddr; (iterate 3 exact rfl); exact inferInstance; exact rfl) | (first | apply H.seq | apply H.region | apply H.nil | apply H.then_normal) | ((apply H.cmp); (iterate 5 exact rfl)) | (apply H.pass; (iterate 2 exact rfl)) | ((apply H.pickF); (iterate 4 exact rfl)) | (first | apply H.skip | apply H.ret) | (apply H.gno; (iterate 3 exact rfl); (assumption)) | (apply H.cond_no; exact rfl; (omega)) | (refine H.sliceArr (lo := none) (hi := none) (mx := none) (lv := 0) (hv := 11) (mv := 11) rfl rfl rfl rfl rfl (fun h => by cases h) (by decide) (by decide) (by decide) rfl ?_) | (refine H.callR rfl rfl rfl (max_fn f _ (off := 0 + 2) (d := m.deps) (msg_deps (by repeat (first | exact .here _ _ _ | apply At.there)))) ?_))
              refine H.drop (.here _ _) ?_
              refine H.ret1 rfl rfl (fun _ h => h) ⟨?_, rfl, rfl⟩
              simp [Msg.outer, *]
          · skip
            try simp only [Bool.not_eq_true] at *
            refine Fn.enter Try.func30 rfl Try.ntmps30 rfl (L := [(0, _)]) ⟨rfl, trivial⟩ fun base => ?_
            repeat ((first | apply H.seq | apply H.region))
            refine H.box (ls := m.vals q qc) rfl rfl rfl rfl fun mb => ?_
            repeat (first | ((apply H.assign); (iterate 3 exact rfl)) | (first | apply H.seq | apply H.nil | apply H.then_normal))
            refine H.drawQ (by kernel_rfl) (by decide +kernel) (by first | exact blind_fn | exact blind_seq blind_fn | exact blind_seq (blind_seq blind_fn) | (repeat (first | exact blind_fn | refine blind_seq ?_ | refine blind_block ?_ | refine blind_loop ?_))) ?_
            repeat (first | ((apply HQ.move); (iterate 3 exact rfl)) | (apply HQ.fieldAddr; (iterate 3 exact rfl); exact inferInstance; exact rfl) | (apply HQ.load1; (iterate 3 exact rfl); apply Rd1.ofRow; (repeat (exact .here _ _ _)); (iterate 2 exact rfl)) | ((apply HQ.done0); exact rfl) | ((apply HQ.cmp); (iterate 5 exact rfl)) | ((apply HQ.ar; (iterate 4 exact rfl)); (first | (with_reducible apply wr_i64; omega) | (with_reducible apply wr_u64; omega)); exact rfl) | ((apply HQ.pickF); (iterate 4 exact rfl)) | (apply HQ.gno; (iterate 3 exact rfl); (omega)) | (refine HQ.index_array (i := (m.origin.toNat - 1)) rfl rfl rfl (by omega) (by omega) rfl ?_) | (refine HQ.load1 rfl rfl rfl (.of (msg_deps (by repeat (first | exact .here _ _ _ | apply At.there))) (by rw [Nat.mul_one]; exact v11_get m.deps (by omega))) rfl ?_))
            repeat (first | ((apply H.assign); (iterate 3 exact rfl)) | (first | apply H.seq | apply H.region | apply H.nil | apply H.then_normal) | (first | apply H.ret | apply H.then_ret) | (apply H.cond_yes; exact rfl; (assumption)))
            refine H.drop (.here _ _) ?_
            refine H.ret1 rfl rfl (fun _ h => h) ⟨?_, rfl, rfl⟩
            simp [Msg.outer, *]
        · skip
          try simp only [Bool.not_eq_true] at *
          refine Fn.enter Try.func30 rfl Try.ntmps30 rfl (L := [(0, _)]) ⟨rfl, trivial⟩ fun base => ?_
          repeat ((first | apply H.seq | apply H.region))
          refine H.box (ls := m.vals q qc) rfl rfl rfl rfl fun mb => ?_
          repeat (first | ((apply H.assign); (iterate 3 exact rfl)) | (first | apply H.seq | apply H.nil | apply H.then_normal))
          refine H.drawQ (by kernel_rfl) (by decide +kernel) (by first | exact blind_fn | exact blind_seq blind_fn | exact blind_seq (blind_seq blind_fn) | (repeat (first | exact blind_fn | refine blind_seq ?_ | refine blind_block ?_ | refine blind_loop ?_))) ?_
          repeat (first | ((apply HQ.move); (iterate 3 exact rfl)) | (apply HQ.fieldAddr; (iterate 3 exact rfl); exact inferInstance; exact rfl) | (apply HQ.load1; (iterate 3 exact rfl); apply Rd1.ofRow; (repeat (exact .here _ _ _)); (iterate 2 exact rfl)) | ((apply HQ.done0); exact rfl) | ((apply HQ.cmp); (iterate 5 exact rfl)) | (apply HQ.pass; (iterate 2 exact rfl)) | (apply HQ.pickT; (iterate 4 exact rfl)) | ((apply HQ.pickF); (iterate 4 exact rfl)) | (apply HQ.gyes; (iterate 3 exact rfl); (omega)) | (apply HQ.gno; (iterate 3 exact rfl); (omega)))
          repeat (first | ((apply H.assign); (iterate 3 exact rfl)) | (first | apply H.seq | apply H.region | apply H.nil | apply H.then_normal) | (apply H.cond_true; exact rfl) | (first | apply H.ret | apply H.then_ret))
          refine H.drop (.here _ _) ?_
          refine H.ret1 rfl rfl (fun _ h => h) ⟨?_, rfl, rfl⟩
          simp [Msg.outer, *]
      · skip
        try simp only [Bool.not_eq_true] at *
        refine Fn.enter Try.func30 rfl Try.ntmps30 rfl (L := [(0, _)]) ⟨rfl, trivial⟩ fun base => ?_
        repeat ((first | apply H.seq | apply H.region))
        refine H.box (ls := m.vals q qc) rfl rfl rfl rfl fun mb => ?_
        repeat (first | ((apply H.assign); (iterate 3 exact rfl)) | (first | apply H.seq | apply H.nil | apply H.then_normal))
        refine H.drawQ (by kernel_rfl) (by decide +kernel) (by first | exact blind_fn | exact blind_seq blind_fn | exact blind_seq (blind_seq blind_fn) | (repeat (first | exact blind_fn | refine blind_seq ?_ | refine blind_block ?_ | refine blind_loop ?_))) ?_
        repeat (first | ((apply HQ.move); (iterate 3 exact rfl)) | (apply HQ.fieldAddr; (iterate 3 exact rfl); exact inferInstance; exact rfl) | (apply HQ.load1; (iterate 3 exact rfl); apply Rd1.ofRow; (repeat (exact .here _ _ _)); (iterate 2 exact rfl)) | ((apply HQ.done0); exact rfl) | ((apply HQ.cmp); (iterate 5 exact rfl)) | (apply HQ.pass; (iterate 2 exact rfl)) | (apply HQ.pickT; (iterate 4 exact rfl)) | ((apply HQ.pickF); (iterate 4 exact rfl)) | (apply HQ.gyes; (iterate 3 exact rfl); (omega)) | (apply HQ.gno; (iterate 3 exact rfl); (omega)))
        repeat (first | ((apply H.assign); (iterate 3 exact rfl)) | (first | apply H.seq | apply H.region | apply H.nil | apply H.then_normal) | (apply H.cond_true; exact rfl) | (first | apply H.ret | apply H.then_ret))
        refine H.drop (.here _ _) ?_
        refine H.ret1 rfl rfl (fun _ h => h) ⟨?_, rfl, rfl⟩
        simp [Msg.outer, *]
    · skip
      try simp only [Bool.not_eq_true] at *
      refine Fn.enter Try.func30 rfl Try.ntmps30 rfl (L := [(0, _)]) ⟨rfl, trivial⟩ fun base => ?_
      repeat ((first | apply H.seq | apply H.region))
      refine H.box (ls := m.vals q qc) rfl rfl rfl rfl fun mb => ?_
      repeat (first | ((apply H.assign); (iterate 3 exact rfl)) | (first | apply H.seq | apply H.nil | apply H.then_normal))
      refine H.drawQ (by kernel_rfl) (by decide +kernel) (by first | exact blind_fn | exact blind_seq blind_fn | exact blind_seq (blind_seq blind_fn) | (repeat (first | exact blind_fn | refine blind_seq ?_ | refine blind_block ?_ | refine blind_loop ?_))) ?_
      repeat (first | ((apply HQ.move); (iterate 3 exact rfl)) | (apply HQ.fieldAddr; (iterate 3 exact rfl); exact inferInstance; exact rfl) | (apply HQ.load1; (iterate 3 exact rfl); apply Rd1.ofRow; (repeat (exact .here _ _ _)); (iterate 2 exact rfl)) | ((apply HQ.done0); exact rfl) | ((apply HQ.cmp); (iterate 5 exact rfl)) | (apply HQ.pass; (iterate 2 exact rfl)) | (apply HQ.pickT; (iterate 4 exact rfl)) | ((apply HQ.pickF); (iterate 4 exact rfl)) | (apply HQ.gyes; (iterate 3 exact rfl); (omega)) | (apply HQ.gno; (iterate 3 exact rfl); (omega)))
      repeat (first | ((apply H.assign); (iterate 3 exact rfl)) | (first | apply H.seq | apply H.region | apply H.nil | apply H.then_normal) | (apply H.cond_true; exact rfl) | (first | apply H.ret | apply H.then_ret))
      refine H.drop (.here _ _) ?_
      refine H.ret1 rfl rfl (fun _ h => h) ⟨?_, rfl, rfl⟩
      simp [Msg.outer, *]
  · skip
    try simp only [Bool.not_eq_true] at *
    refine Fn.enter Try.func30 rfl Try.ntmps30 rfl (L := [(0, _)]) ⟨rfl, trivial⟩ fun base => ?_
    repeat ((first | apply H.seq | apply H.region))
    refine H.box (ls := m.vals q qc) rfl rfl rfl rfl fun mb => ?_
    repeat (first | ((apply H.assign); (iterate 3 exact rfl)) | (first | apply H.seq | apply H.nil | apply H.then_normal))
    refine H.drawQ (by kernel_rfl) (by decide +kernel) (by first | exact blind_fn | exact blind_seq blind_fn | exact blind_seq (blind_seq blind_fn) | (repeat (first | exact blind_fn | refine blind_seq ?_ | refine blind_block ?_ | refine blind_loop ?_))) ?_
    repeat (first | ((apply HQ.move); (iterate 3 exact rfl)) | (apply HQ.fieldAddr; (iterate 3 exact rfl); exact inferInstance; exact rfl) | (apply HQ.load1; (iterate 3 exact rfl); apply Rd1.ofRow; (repeat (exact .here _ _ _)); (iterate 2 exact rfl)) | ((apply HQ.done0); exact rfl) | ((apply HQ.cmp); (iterate 5 exact rfl)) | (apply HQ.pass; (iterate 2 exact rfl)) | (apply HQ.pickT; (iterate 4 exact rfl)) | (apply HQ.gyes; (iterate 3 exact rfl); (omega)))
    repeat (first | ((apply H.assign); (iterate 3 exact rfl)) | (first | apply H.seq | apply H.region | apply H.nil | apply H.then_normal) | (apply H.cond_true; exact rfl) | (first | apply H.ret | apply H.then_ret))
    refine H.drop (.here _ _) ?_
    refine H.ret1 rfl rfl (fun _ h => h) ⟨?_, rfl, rfl⟩
    simp [Msg.outer, *]
end
end Go.Proofs.Ytcaofnfemogleaa

/- Layer 8, messages: the document's bodies: own, sameBody, pairs. (Printed by gen_nj.py.) -/
namespace Go.Proofs.Ytcaofnfemogleaa
set_option linter.unusedSectionVars false
set_option linter.unusedSimpArgs false
set_option linter.unusedVariables false
open Go
section
variable (f : Frag) (F : List HP)
theorem rpairs_fn {p r : Option Addr} {c d : Nat} {l m : List (Int × Int)} (hp : QAt f p l) (hr : QAt f r m) (hl : l.length ≤ 1000000000) :
    Fn Try.prog 78 [.slice p l.length c, .slice r m.length d] f F (Ret (.bool (decide (l = m))) f F) := by
  by_cases hlen : (l.length : Int) = m.length
  · have hlen' : l.length = m.length := by omega
    refine Fn.enter Try.func78 rfl Try.ntmps78 rfl (L := [(0, _), (1, _)]) ⟨rfl, rfl, trivial⟩ fun base => ?_
    repeat (first | ((first | apply H.move | apply H.assign | apply H.len_slice); (iterate 3 exact rfl)) | (first | apply H.seq | apply H.region | apply H.nil | apply H.then_normal) | ((apply H.cmp); (iterate 5 exact rfl)) | (first | apply H.skip | apply H.block) | (apply H.cond_no; exact rfl; (omega)))
    rw [decide_eq_false (by omega)]
    skip
    refine H.loop (ι := Nat) (fun i => [(5, .int .i64 (i : Int)), (0, .slice p l.length c), (1, .slice r m.length d)]) (fun _ => f) (fun _ => F) (fun i => i ≤ l.length ∧ l.take i = m.take i) (fun i => l.length - i) 0 ⟨Nat.zero_le _, rfl⟩ ⟨rfl, rfl, rfl, trivial⟩ rfl rfl fun i hi => ?_
    obtain ⟨hi, htk⟩ : i ≤ l.length ∧ l.take i = m.take i := hi
    by_cases hlt : i < l.length
    · have hx : l[i]? = some l[i] := List.getElem?_eq_getElem hlt
      have hy : m[i]? = some (m[i]'(by omega)) := List.getElem?_eq_getElem (by omega)
      generalize l[i] = x at hx
      generalize m[i]'(by omega) = y at hy
      obtain ⟨b, off, cs, T, fr, rfl, hfb, hcs⟩ := hp i x hx
      obtain ⟨b2, off2, cs2, T2, fr2, rfl, hfb2, hcs2⟩ := hr i y hy
      have rd : ∀ A, Rd f A b (off + i * 2) (pairV x) := fun A => Rd.imm hfb hcs
      have rd2 : ∀ A, Rd f A b2 (off2 + i * 2) (pairV y) := fun A => Rd.imm hfb2 hcs2
      repeat (first | ((first | apply H.move | apply H.len_slice); (iterate 3 exact rfl)) | (first | apply H.seq | apply H.region | apply H.nil | apply H.then_normal) | ((apply H.cmp); (iterate 5 exact rfl)) | (first | apply H.skip | apply H.block) | (apply H.cond_yes; exact rfl; (omega)))
      refine H.drawQ (by kernel_rfl) (by decide +kernel) (by first | exact blind_fn | exact blind_seq blind_fn | exact blind_seq (blind_seq blind_fn) | (repeat (first | exact blind_fn | refine blind_seq ?_ | refine blind_block ?_ | refine blind_loop ?_))) ?_
      repeat (((apply HQ.move); (iterate 3 exact rfl)))
      refine HQ.index_slice rfl rfl rfl rfl hlt rfl ?_
      refine HQ.loadN (ls := pairV x) rfl rfl rfl (rd _) rfl rfl ?_
      repeat (((apply HQ.move); (iterate 3 exact rfl)))
      refine HQ.index_slice rfl rfl rfl rfl (by omega) rfl ?_
      refine HQ.loadN (ls := pairV y) rfl rfl rfl (rd2 _) rfl rfl ?_
      refine HQ.aggNe (D := 4) (b := !decide (x = y)) rfl rfl rfl rfl (by kernel_rfl) (by kernel_rfl) (by kernel_rfl) (by kernel_rfl) (by decide) (by rw [eqC_pair]) rfl ?_
      by_cases hxy : x = y
      · rw [decide_eq_true hxy]
        repeat (((apply HQ.done0); exact rfl))
        repeat (first | ((first | apply H.move | apply H.assign); (iterate 3 exact rfl)) | (first | apply H.region | apply H.nil | apply H.then_normal) | ((apply H.ar; (iterate 4 exact rfl)); (with_reducible apply wr_i64_n1; omega); exact rfl) | (apply H.cond_false; exact rfl) | (first | apply H.skip | apply H.in_normal))
        exact H.again (i + 1) ⟨by show i + 1 ≤ l.length; omega, take_eq_succ htk hx hy hxy⟩ (by show l.length - (i + 1) < l.length - i; omega) ⟨rfl, rfl, rfl, trivial⟩ rfl rfl
      · rw [decide_eq_false hxy]
        repeat (((apply HQ.done0); exact rfl))
        repeat (first | ((apply H.assign); (iterate 3 exact rfl)) | (first | apply H.seq | apply H.region | apply H.nil | apply H.then_normal) | (apply H.cond_true; exact rfl) | (first | apply H.ret | apply H.then_ret | apply H.in_ret | apply H.loop_ret))
        refine H.ret1 rfl rfl (fun _ h => h) ⟨?_, rfl, rfl⟩
        rw [decide_eq_false]
        rintro rfl
        rw [hx] at hy
        exact hxy (Option.some.inj hy)
    · have : i = l.length := by omega
      subst this
      repeat (first | ((first | apply H.move | apply H.assign | apply H.len_slice); (iterate 3 exact rfl)) | (first | apply H.seq | apply H.region | apply H.nil | apply H.then_normal) | ((apply H.cmp); (iterate 5 exact rfl)) | (first | apply H.ret | apply H.then_exit | apply H.exit | apply H.in_hit | apply H.loop_exit) | (apply H.cond_no; exact rfl; (omega)))
      refine H.ret1 rfl rfl (fun _ h => h) ⟨?_, rfl, rfl⟩
      rw [decide_eq_true]
      rwa [List.take_length, hlen', List.take_length] at htk
  · refine Fn.enter Try.func78 rfl Try.ntmps78 rfl (L := [(0, _), (1, _)]) ⟨rfl, rfl, trivial⟩ fun base => ?_
    repeat (first | ((first | apply H.move | apply H.assign | apply H.len_slice); (iterate 3 exact rfl)) | (first | apply H.seq | apply H.region | apply H.nil | apply H.then_normal) | ((apply H.cmp); (iterate 5 exact rfl)) | (first | apply H.ret | apply H.then_ret) | (apply H.cond_yes; exact rfl; (assumption)))
    refine H.ret1 rfl rfl (fun _ h => h) ⟨?_, rfl, rfl⟩
    rw [decide_eq_false]
    rintro rfl
    exact hlen rfl
theorem rsame_fn {a b : Bod} {p r : Option Addr} {c d : Nat} (hp : QAt f p a.q) (hr : QAt f r b.q) (hl : a.q.length ≤ 1000000000) :
    Fn Try.prog 48 [.agg (a.vals p c).toArray, .agg (b.vals r d).toArray] f F (Ret (.bool (Bod.eqB a b)) f F) := by
  by_cases h1 : (a.kind.toNat : Int) = b.kind.toNat
  · skip
    by_cases h2 : a.view = b.view
    · skip
      by_cases h3 : a.k = b.k
      · skip
        by_cases h4 : eqC a.req.vals b.req.vals = true
        · skip
          by_cases h5 : a.q = b.q
          · skip
            try simp only [Bool.not_eq_true] at *
            refine Fn.enter Try.func48 rfl Try.ntmps48 rfl (L := [(0, _), (1, _)]) ⟨rfl, rfl, trivial⟩ fun base => ?_
            repeat (first | ((first | apply H.move | apply H.assign); (iterate 3 exact rfl)) | (apply H.fieldAddr; (iterate 3 exact rfl); exact inferInstance; exact rfl) | (apply H.load1; (iterate 3 exact rfl); apply Rd1.ofRow; (repeat (first | exact .here _ _ _ | apply At.there)); (iterate 2 exact rfl)) | (first | apply H.seq | apply H.region | apply H.nil | apply H.then_normal) | ((apply H.cmp); (iterate 5 exact rfl)) | (apply H.pickT; (iterate 4 exact rfl)) | (apply H.ret) | (apply H.gyes; (iterate 3 exact rfl); (assumption)) | ((apply H.gtrue); (iterate 3 exact rfl); assumption) | (refine H.box (ls := a.vals p c) rfl rfl rfl rfl fun ab => ?_) | (refine H.box (ls := b.vals r d) rfl rfl rfl rfl fun bb => ?_) | (refine H.loadN (ls := a.req.vals) rfl rfl rfl (row_req (by repeat (first | exact .here _ _ _ | apply At.there))) rfl rfl ?_) | (refine H.loadN (ls := b.req.vals) rfl rfl rfl (row_req (by repeat (first | exact .here _ _ _ | apply At.there))) rfl rfl ?_) | (refine H.aggEq (xs := a.req.vals) (ys := b.req.vals) (D := 4) rfl rfl rfl rfl (by kernel_rfl) (by kernel_rfl) (by kernel_rfl) (by kernel_rfl) (by decide) rfl rfl ?_) | (refine H.callR rfl rfl rfl (rpairs_fn f _ hp hr hl) ?_) | (refine H.loadN (ls := bytesV (b32L a.dig)) rfl rfl rfl (row_dig (by repeat (first | exact .here _ _ _ | apply At.there))) rfl rfl ?_) | (refine H.loadN (ls := bytesV (b32L b.dig)) rfl rfl rfl (row_dig (by repeat (first | exact .here _ _ _ | apply At.there))) rfl rfl ?_) | (refine H.aggEq (xs := bytesV (b32L a.dig)) (ys := bytesV (b32L b.dig)) (b := eqC (b32 a.dig) (b32 b.dig)) (D := 4) rfl rfl rfl rfl (by kernel_rfl) (by kernel_rfl) (by kernel_rfl) (by kernel_rfl) (by decide) rfl rfl ?_))
            refine H.drop (.here _ _) ?_
            refine H.drop (.here _ _) ?_
            refine H.ret1 rfl rfl (fun _ h => h) ⟨?_, rfl, rfl⟩
            simp [Bod.eqB, *]
          · skip
            try simp only [Bool.not_eq_true] at *
            refine Fn.enter Try.func48 rfl Try.ntmps48 rfl (L := [(0, _), (1, _)]) ⟨rfl, rfl, trivial⟩ fun base => ?_
            repeat (first | ((first | apply H.move | apply H.assign); (iterate 3 exact rfl)) | (apply H.fieldAddr; (iterate 3 exact rfl); exact inferInstance; exact rfl) | (apply H.load1; (iterate 3 exact rfl); apply Rd1.ofRow; (repeat (first | exact .here _ _ _ | apply At.there)); (iterate 2 exact rfl)) | (first | apply H.seq | apply H.region | apply H.nil | apply H.then_normal) | ((apply H.cmp); (iterate 5 exact rfl)) | (apply H.pass; (iterate 2 exact rfl)) | (apply H.pickT; (iterate 4 exact rfl)) | ((apply H.pickF); (iterate 4 exact rfl)) | (apply H.ret) | (apply H.gyes; (iterate 3 exact rfl); (assumption)) | (apply H.gno; (iterate 3 exact rfl); (assumption)) | ((apply H.gtrue); (iterate 3 exact rfl); assumption) | (refine H.box (ls := a.vals p c) rfl rfl rfl rfl fun ab => ?_) | (refine H.box (ls := b.vals r d) rfl rfl rfl rfl fun bb => ?_) | (refine H.loadN (ls := a.req.vals) rfl rfl rfl (row_req (by repeat (first | exact .here _ _ _ | apply At.there))) rfl rfl ?_) | (refine H.loadN (ls := b.req.vals) rfl rfl rfl (row_req (by repeat (first | exact .here _ _ _ | apply At.there))) rfl rfl ?_) | (refine H.aggEq (xs := a.req.vals) (ys := b.req.vals) (D := 4) rfl rfl rfl rfl (by kernel_rfl) (by kernel_rfl) (by kernel_rfl) (by kernel_rfl) (by decide) rfl rfl ?_) | (refine H.callR rfl rfl rfl (rpairs_fn f _ hp hr hl) ?_))
            refine H.drop (.here _ _) ?_
            refine H.drop (.here _ _) ?_
            refine H.ret1 rfl rfl (fun _ h => h) ⟨?_, rfl, rfl⟩
            simp [Bod.eqB, *]
        · skip
          try simp only [Bool.not_eq_true] at *
          refine Fn.enter Try.func48 rfl Try.ntmps48 rfl (L := [(0, _), (1, _)]) ⟨rfl, rfl, trivial⟩ fun base => ?_
          repeat (first | ((first | apply H.move | apply H.assign); (iterate 3 exact rfl)) | (apply H.fieldAddr; (iterate 3 exact rfl); exact inferInstance; exact rfl) | (apply H.load1; (iterate 3 exact rfl); apply Rd1.ofRow; (repeat (first | exact .here _ _ _ | apply At.there)); (iterate 2 exact rfl)) | (first | apply H.seq | apply H.region | apply H.nil | apply H.then_normal) | ((apply H.cmp); (iterate 5 exact rfl)) | (apply H.pass; (iterate 2 exact rfl)) | (apply H.pickT; (iterate 4 exact rfl)) | ((apply H.pickF); (iterate 4 exact rfl)) | (apply H.ret) | (apply H.gyes; (iterate 3 exact rfl); (assumption)) | (apply H.gfalse; (iterate 3 exact rfl); assumption) | (refine H.box (ls := a.vals p c) rfl rfl rfl rfl fun ab => ?_) | (refine H.box (ls := b.vals r d) rfl rfl rfl rfl fun bb => ?_) | (refine H.loadN (ls := a.req.vals) rfl rfl rfl (row_req (by repeat (first | exact .here _ _ _ | apply At.there))) rfl rfl ?_) | (refine H.loadN (ls := b.req.vals) rfl rfl rfl (row_req (by repeat (first | exact .here _ _ _ | apply At.there))) rfl rfl ?_) | (refine H.aggEq (xs := a.req.vals) (ys := b.req.vals) (D := 4) rfl rfl rfl rfl (by kernel_rfl) (by kernel_rfl) (by kernel_rfl) (by kernel_rfl) (by decide) rfl rfl ?_))
          refine H.drop (.here _ _) ?_
          refine H.drop (.here _ _) ?_
          refine H.ret1 rfl rfl (fun _ h => h) ⟨?_, rfl, rfl⟩
          simp [Bod.eqB, *]
      · skip
        try simp only [Bool.not_eq_true] at *
        refine Fn.enter Try.func48 rfl Try.ntmps48 rfl (L := [(0, _), (1, _)]) ⟨rfl, rfl, trivial⟩ fun base => ?_
        repeat (first | ((first | apply H.move | apply H.assign); (iterate 3 exact rfl)) | (apply H.fieldAddr; (iterate 3 exact rfl); exact inferInstance; exact rfl) | (apply H.load1; (iterate 3 exact rfl); apply Rd1.ofRow; (repeat (first | exact .here _ _ _ | apply At.there)); (iterate 2 exact rfl)) | (first | apply H.seq | apply H.region | apply H.nil | apply H.then_normal) | ((apply H.cmp); (iterate 5 exact rfl)) | (apply H.pass; (iterate 2 exact rfl)) | (apply H.pickT; (iterate 4 exact rfl)) | ((apply H.pickF); (iterate 4 exact rfl)) | (apply H.ret) | (apply H.gyes; (iterate 3 exact rfl); (assumption)) | (apply H.gno; (iterate 3 exact rfl); (assumption)) | (refine H.box (ls := a.vals p c) rfl rfl rfl rfl fun ab => ?_) | (refine H.box (ls := b.vals r d) rfl rfl rfl rfl fun bb => ?_))
        refine H.drop (.here _ _) ?_
        refine H.drop (.here _ _) ?_
        refine H.ret1 rfl rfl (fun _ h => h) ⟨?_, rfl, rfl⟩
        simp [Bod.eqB, *]
    · skip
      try simp only [Bool.not_eq_true] at *
      refine Fn.enter Try.func48 rfl Try.ntmps48 rfl (L := [(0, _), (1, _)]) ⟨rfl, rfl, trivial⟩ fun base => ?_
      repeat (first | ((first | apply H.move | apply H.assign); (iterate 3 exact rfl)) | (apply H.fieldAddr; (iterate 3 exact rfl); exact inferInstance; exact rfl) | (apply H.load1; (iterate 3 exact rfl); apply Rd1.ofRow; (repeat (first | exact .here _ _ _ | apply At.there)); (iterate 2 exact rfl)) | (first | apply H.seq | apply H.region | apply H.nil | apply H.then_normal) | ((apply H.cmp); (iterate 5 exact rfl)) | (apply H.pass; (iterate 2 exact rfl)) | (apply H.pickT; (iterate 4 exact rfl)) | ((apply H.pickF); (iterate 4 exact rfl)) | (apply H.ret) | (apply H.gyes; (iterate 3 exact rfl); (assumption)) | (apply H.gno; (iterate 3 exact rfl); (assumption)) | (refine H.box (ls := a.vals p c) rfl rfl rfl rfl fun ab => ?_) | (refine H.box (ls := b.vals r d) rfl rfl rfl rfl fun bb => ?_))
      refine H.drop (.here _ _) ?_
      refine H.drop (.here _ _) ?_
      refine H.ret1 rfl rfl (fun _ h => h) ⟨?_, rfl, rfl⟩
      simp [Bod.eqB, *]
  · skip
    try simp only [Bool.not_eq_true] at *
    refine Fn.enter Try.func48 rfl Try.ntmps48 rfl (L := [(0, _), (1, _)]) ⟨rfl, rfl, trivial⟩ fun base => ?_
    repeat (first | ((first | apply H.move | apply H.assign); (iterate 3 exact rfl)) | (apply H.fieldAddr; (iterate 3 exact rfl); exact inferInstance; exact rfl) | (apply H.load1; (iterate 3 exact rfl); apply Rd1.ofRow; (repeat (first | exact .here _ _ _ | apply At.there)); (iterate 2 exact rfl)) | (first | apply H.seq | apply H.region | apply H.nil | apply H.then_normal) | ((apply H.cmp); (iterate 5 exact rfl)) | (apply H.pass; (iterate 2 exact rfl)) | ((apply H.pickF); (iterate 4 exact rfl)) | (apply H.ret) | (apply H.gno; (iterate 3 exact rfl); (assumption)) | (refine H.box (ls := a.vals p c) rfl rfl rfl rfl fun ab => ?_) | (refine H.box (ls := b.vals r d) rfl rfl rfl rfl fun bb => ?_))
    refine H.drop (.here _ _) ?_
    refine H.drop (.here _ _) ?_
    refine H.ret1 rfl rfl (fun _ h => h) ⟨?_, rfl, rfl⟩
    simp [Bod.eqB, *]

theorem splice_dig (x : Bod) : splice (({ Bod.zero x.kind with k := x.k } : Bod).vals none 0) (0 + 44) (b32 x.dig) = (x.ownK 6).vals none 0 := by
  have e : ({ Bod.zero x.kind with k := x.k } : Bod).vals none 0 = ([.int .u8 (x.kind.toNat : Nat), .int .u64 0, .int .u64 x.k] ++ Req.zero.vals ++ [.slice none 0 0]) ++ b32 noTag := rfl
  have e2 : (x.ownK 6).vals none 0 = ([.int .u8 (x.kind.toNat : Nat), .int .u64 0, .int .u64 x.k] ++ Req.zero.vals ++ [.slice none 0 0]) ++ b32 x.dig := rfl
  rw [e, e2]
  generalize hp : ([.int .u8 (x.kind.toNat : Nat), .int .u64 0, .int .u64 x.k] ++ Req.zero.vals ++ [.slice none 0 0] : List Value) = p
  have hl : p.length = 44 := by rw [← hp]; rfl
  unfold splice
  rw [Nat.zero_add, ← hl, List.take_left, List.drop_eq_nil_of_le (by rw [List.length_append]; exact Nat.le_refl _), List.append_nil]

theorem own_fn1 {x : Bod} {q : Option Addr} {qc : Nat} (hk : x.kind.toNat = 1) : Fn Try.prog 49 [.agg (x.vals q qc).toArray] f F (Ret (.agg ((x.ownK 1).vals none 0).toArray) f F) := by
  refine Fn.enter Try.func49 rfl Try.ntmps49 rfl (L := [(0, _)]) ⟨rfl, trivial⟩ fun base => ?_
  repeat (first | ((apply H.assign); (iterate 3 exact rfl)) | (apply H.fieldAddr; (iterate 3 exact rfl); exact inferInstance; exact rfl) | (apply H.load1; (iterate 3 exact rfl); apply Rd1.ofRow; (repeat (first | exact .here _ _ _ | apply At.there)); (iterate 2 exact rfl)) | (first | apply H.seq | apply H.region | apply H.nil | apply H.then_normal) | ((first | apply H.cmp | apply H.build); (iterate 5 exact rfl)) | (apply H.store1; (iterate 4 exact rfl); (repeat (exact .here _ _ _)); (repeat (first | exact .here _ _ _ | apply SetV.there))) | (first | apply H.block | apply H.in_normal) | (apply H.cond_yes; exact rfl; (omega)) | (refine H.box (ls := x.vals q qc) rfl rfl rfl rfl fun xb => ?_) | (refine H.alloc (ls := (Bod.zero 0).vals none 0) rfl rfl rfl fun _ => ?_) | (refine H.storeN (ls := (Bod.zero 0).vals none 0) (vs := (Bod.zero x.kind).vals none 0) (ls' := (Bod.zero x.kind).vals none 0) rfl rfl rfl (allOne_mem rfl) rfl rfl (Nat.le_refl 76) (by repeat (first | exact .here _ _ _ | apply At.there)) ?_) | (refine H.loadN (ls := x.req.vals) rfl rfl rfl (row_req (by repeat (first | exact .here _ _ _ | apply At.there))) rfl rfl ?_) | (refine H.storeN (ls := ({ Bod.zero x.kind with view := x.view } : Bod).vals none 0) (vs := x.req.vals) (ls' := (x.ownK 1).vals none 0) rfl rfl rfl (allOne_mem rfl) rfl rfl (show 3 + 40 ≤ 76 by decide) (by repeat (first | exact .here _ _ _ | apply At.there)) ?_))
  refine H.loadN (ls := (x.ownK 1).vals none 0) rfl rfl rfl (Rd.ofRow (by repeat (first | exact .here _ _ _ | apply At.there))) rfl rfl ?_
  refine H.storeN (ls := (Bod.zero 0).vals none 0) (vs := (x.ownK 1).vals none 0) (ls' := (x.ownK 1).vals none 0) rfl rfl rfl (allOne_mem rfl) rfl rfl (Nat.le_refl 76) (by repeat (first | exact .here _ _ _ | apply At.there)) ?_
  repeat (first | (first | apply H.nil | apply H.then_normal) | (apply H.ret))
  refine H.drop (.here _ _) ?_
  refine H.drop (.there _ (.here _ _)) ?_
  exact H.retD rfl rfl rfl (Rd.ofRow (by repeat (first | exact .here _ _ _ | apply At.there))) rfl (fun _ s => s.drop (.here _ _)) ⟨rfl, rfl, rfl⟩
theorem own_fn2 {x : Bod} {q : Option Addr} {qc : Nat} (hk : x.kind.toNat = 2) : Fn Try.prog 49 [.agg (x.vals q qc).toArray] f F (Ret (.agg ((x.ownK 2).vals none 0).toArray) f F) := by
  refine Fn.enter Try.func49 rfl Try.ntmps49 rfl (L := [(0, _)]) ⟨rfl, trivial⟩ fun base => ?_
  repeat (first | ((apply H.assign); (iterate 3 exact rfl)) | (apply H.fieldAddr; (iterate 3 exact rfl); exact inferInstance; exact rfl) | (apply H.load1; (iterate 3 exact rfl); apply Rd1.ofRow; (repeat (first | exact .here _ _ _ | apply At.there)); (iterate 2 exact rfl)) | (first | apply H.seq | apply H.region | apply H.nil | apply H.then_normal) | ((first | apply H.cmp | apply H.build); (iterate 5 exact rfl)) | (apply H.store1; (iterate 4 exact rfl); (repeat (exact .here _ _ _)); (repeat (first | exact .here _ _ _ | apply SetV.there))) | (first | apply H.block | apply H.in_normal) | (apply H.cond_yes; exact rfl; (omega)) | (apply H.cond_no; exact rfl; (omega)) | (refine H.box (ls := x.vals q qc) rfl rfl rfl rfl fun xb => ?_) | (refine H.alloc (ls := (Bod.zero 0).vals none 0) rfl rfl rfl fun _ => ?_) | (refine H.storeN (ls := (Bod.zero 0).vals none 0) (vs := (Bod.zero x.kind).vals none 0) (ls' := (Bod.zero x.kind).vals none 0) rfl rfl rfl (allOne_mem rfl) rfl rfl (Nat.le_refl 76) (by repeat (first | exact .here _ _ _ | apply At.there)) ?_))
  refine H.loadN (ls := (x.ownK 2).vals none 0) rfl rfl rfl (Rd.ofRow (by repeat (first | exact .here _ _ _ | apply At.there))) rfl rfl ?_
  refine H.storeN (ls := (Bod.zero 0).vals none 0) (vs := (x.ownK 2).vals none 0) (ls' := (x.ownK 2).vals none 0) rfl rfl rfl (allOne_mem rfl) rfl rfl (Nat.le_refl 76) (by repeat (first | exact .here _ _ _ | apply At.there)) ?_
  repeat (first | (first | apply H.nil | apply H.then_normal) | (apply H.ret))
  refine H.drop (.here _ _) ?_
  refine H.drop (.there _ (.here _ _)) ?_
  exact H.retD rfl rfl rfl (Rd.ofRow (by repeat (first | exact .here _ _ _ | apply At.there))) rfl (fun _ s => s.drop (.here _ _)) ⟨rfl, rfl, rfl⟩
theorem own_fn3 {x : Bod} {q : Option Addr} {qc : Nat} (hk : x.kind.toNat = 3) : Fn Try.prog 49 [.agg (x.vals q qc).toArray] f F (Ret (.agg ((x.ownK 3).vals none 0).toArray) f F) := by
  refine Fn.enter Try.func49 rfl Try.ntmps49 rfl (L := [(0, _)]) ⟨rfl, trivial⟩ fun base => ?_
  repeat (first | ((apply H.assign); (iterate 3 exact rfl)) | (apply H.fieldAddr; (iterate 3 exact rfl); exact inferInstance; exact rfl) | (apply H.load1; (iterate 3 exact rfl); apply Rd1.ofRow; (repeat (first | exact .here _ _ _ | apply At.there)); (iterate 2 exact rfl)) | (first | apply H.seq | apply H.region | apply H.nil | apply H.then_normal) | ((first | apply H.cmp | apply H.build); (iterate 5 exact rfl)) | (apply H.store1; (iterate 4 exact rfl); (repeat (exact .here _ _ _)); (repeat (first | exact .here _ _ _ | apply SetV.there))) | (first | apply H.skip | apply H.block | apply H.in_normal) | (apply H.cond_yes; exact rfl; (omega)) | (apply H.cond_no; exact rfl; (omega)) | (refine H.box (ls := x.vals q qc) rfl rfl rfl rfl fun xb => ?_) | (refine H.alloc (ls := (Bod.zero 0).vals none 0) rfl rfl rfl fun _ => ?_) | (refine H.storeN (ls := (Bod.zero 0).vals none 0) (vs := (Bod.zero x.kind).vals none 0) (ls' := (Bod.zero x.kind).vals none 0) rfl rfl rfl (allOne_mem rfl) rfl rfl (Nat.le_refl 76) (by repeat (first | exact .here _ _ _ | apply At.there)) ?_))
  refine H.loadN (ls := (x.ownK 3).vals none 0) rfl rfl rfl (Rd.ofRow (by repeat (first | exact .here _ _ _ | apply At.there))) rfl rfl ?_
  refine H.storeN (ls := (Bod.zero 0).vals none 0) (vs := (x.ownK 3).vals none 0) (ls' := (x.ownK 3).vals none 0) rfl rfl rfl (allOne_mem rfl) rfl rfl (Nat.le_refl 76) (by repeat (first | exact .here _ _ _ | apply At.there)) ?_
  repeat (first | (first | apply H.nil | apply H.then_normal) | (apply H.ret))
  refine H.drop (.here _ _) ?_
  refine H.drop (.there _ (.here _ _)) ?_
  exact H.retD rfl rfl rfl (Rd.ofRow (by repeat (first | exact .here _ _ _ | apply At.there))) rfl (fun _ s => s.drop (.here _ _)) ⟨rfl, rfl, rfl⟩
theorem own_fn4 {x : Bod} {q : Option Addr} {qc : Nat} (hk : x.kind.toNat = 4) : Fn Try.prog 49 [.agg (x.vals q qc).toArray] f F (Ret (.agg ((x.ownK 4).vals q qc).toArray) f F) := by
  refine Fn.enter Try.func49 rfl Try.ntmps49 rfl (L := [(0, _)]) ⟨rfl, trivial⟩ fun base => ?_
  repeat (first | ((apply H.assign); (iterate 3 exact rfl)) | (apply H.fieldAddr; (iterate 3 exact rfl); exact inferInstance; exact rfl) | (apply H.load1; (iterate 3 exact rfl); apply Rd1.ofRow; (repeat (first | exact .here _ _ _ | apply At.there)); (iterate 2 exact rfl)) | (first | apply H.seq | apply H.region | apply H.nil | apply H.then_normal) | ((first | apply H.cmp | apply H.build); (iterate 5 exact rfl)) | (apply H.store1; (iterate 4 exact rfl); (repeat (exact .here _ _ _)); (repeat (first | exact .here _ _ _ | apply SetV.there))) | (first | apply H.block | apply H.in_normal) | (apply H.cond_yes; exact rfl; (omega)) | (apply H.cond_no; exact rfl; (omega)) | (refine H.box (ls := x.vals q qc) rfl rfl rfl rfl fun xb => ?_) | (refine H.alloc (ls := (Bod.zero 0).vals none 0) rfl rfl rfl fun _ => ?_) | (refine H.storeN (ls := (Bod.zero 0).vals none 0) (vs := (Bod.zero x.kind).vals none 0) (ls' := (Bod.zero x.kind).vals none 0) rfl rfl rfl (allOne_mem rfl) rfl rfl (Nat.le_refl 76) (by repeat (first | exact .here _ _ _ | apply At.there)) ?_))
  refine H.loadN (ls := (x.ownK 4).vals q qc) rfl rfl rfl (Rd.ofRow (by repeat (first | exact .here _ _ _ | apply At.there))) rfl rfl ?_
  refine H.storeN (ls := (Bod.zero 0).vals none 0) (vs := (x.ownK 4).vals q qc) (ls' := (x.ownK 4).vals q qc) rfl rfl rfl (allOne_mem rfl) rfl rfl (Nat.le_refl 76) (by repeat (first | exact .here _ _ _ | apply At.there)) ?_
  repeat (first | (first | apply H.nil | apply H.then_normal) | (apply H.ret))
  refine H.drop (.here _ _) ?_
  refine H.drop (.there _ (.here _ _)) ?_
  exact H.retD rfl rfl rfl (Rd.ofRow (by repeat (first | exact .here _ _ _ | apply At.there))) rfl (fun _ s => s.drop (.here _ _)) ⟨rfl, rfl, rfl⟩
theorem own_fn5 {x : Bod} {q : Option Addr} {qc : Nat} (hk : x.kind.toNat = 5) : Fn Try.prog 49 [.agg (x.vals q qc).toArray] f F (Ret (.agg ((x.ownK 5).vals none 0).toArray) f F) := by
  refine Fn.enter Try.func49 rfl Try.ntmps49 rfl (L := [(0, _)]) ⟨rfl, trivial⟩ fun base => ?_
  repeat (first | ((apply H.assign); (iterate 3 exact rfl)) | (apply H.fieldAddr; (iterate 3 exact rfl); exact inferInstance; exact rfl) | (apply H.load1; (iterate 3 exact rfl); apply Rd1.ofRow; (repeat (first | exact .here _ _ _ | apply At.there)); (iterate 2 exact rfl)) | (first | apply H.seq | apply H.region | apply H.nil | apply H.then_normal) | ((first | apply H.cmp | apply H.build); (iterate 5 exact rfl)) | (apply H.store1; (iterate 4 exact rfl); (repeat (exact .here _ _ _)); (repeat (first | exact .here _ _ _ | apply SetV.there))) | (first | apply H.block | apply H.in_normal) | (apply H.cond_yes; exact rfl; (omega)) | (apply H.cond_no; exact rfl; (omega)) | (refine H.box (ls := x.vals q qc) rfl rfl rfl rfl fun xb => ?_) | (refine H.alloc (ls := (Bod.zero 0).vals none 0) rfl rfl rfl fun _ => ?_) | (refine H.storeN (ls := (Bod.zero 0).vals none 0) (vs := (Bod.zero x.kind).vals none 0) (ls' := (Bod.zero x.kind).vals none 0) rfl rfl rfl (allOne_mem rfl) rfl rfl (Nat.le_refl 76) (by repeat (first | exact .here _ _ _ | apply At.there)) ?_))
  refine H.loadN (ls := (x.ownK 5).vals none 0) rfl rfl rfl (Rd.ofRow (by repeat (first | exact .here _ _ _ | apply At.there))) rfl rfl ?_
  refine H.storeN (ls := (Bod.zero 0).vals none 0) (vs := (x.ownK 5).vals none 0) (ls' := (x.ownK 5).vals none 0) rfl rfl rfl (allOne_mem rfl) rfl rfl (Nat.le_refl 76) (by repeat (first | exact .here _ _ _ | apply At.there)) ?_
  repeat (first | (first | apply H.nil | apply H.then_normal) | (apply H.ret))
  refine H.drop (.here _ _) ?_
  refine H.drop (.there _ (.here _ _)) ?_
  exact H.retD rfl rfl rfl (Rd.ofRow (by repeat (first | exact .here _ _ _ | apply At.there))) rfl (fun _ s => s.drop (.here _ _)) ⟨rfl, rfl, rfl⟩
theorem own_fn6 {x : Bod} {q : Option Addr} {qc : Nat} (hk : x.kind.toNat = 6) : Fn Try.prog 49 [.agg (x.vals q qc).toArray] f F (Ret (.agg ((x.ownK 6).vals none 0).toArray) f F) := by
  refine Fn.enter Try.func49 rfl Try.ntmps49 rfl (L := [(0, _)]) ⟨rfl, trivial⟩ fun base => ?_
  repeat (first | ((apply H.assign); (iterate 3 exact rfl)) | (apply H.fieldAddr; (iterate 3 exact rfl); exact inferInstance; exact rfl) | (apply H.load1; (iterate 3 exact rfl); apply Rd1.ofRow; (repeat (first | exact .here _ _ _ | apply At.there)); (iterate 2 exact rfl)) | (first | apply H.seq | apply H.region | apply H.nil | apply H.then_normal) | ((first | apply H.cmp | apply H.build); (iterate 5 exact rfl)) | (apply H.store1; (iterate 4 exact rfl); (repeat (exact .here _ _ _)); (repeat (first | exact .here _ _ _ | apply SetV.there))) | (first | apply H.block | apply H.in_normal) | (apply H.cond_yes; exact rfl; (omega)) | (apply H.cond_no; exact rfl; (omega)) | (refine H.box (ls := x.vals q qc) rfl rfl rfl rfl fun xb => ?_) | (refine H.alloc (ls := (Bod.zero 0).vals none 0) rfl rfl rfl fun _ => ?_) | (refine H.storeN (ls := (Bod.zero 0).vals none 0) (vs := (Bod.zero x.kind).vals none 0) (ls' := (Bod.zero x.kind).vals none 0) rfl rfl rfl (allOne_mem rfl) rfl rfl (Nat.le_refl 76) (by repeat (first | exact .here _ _ _ | apply At.there)) ?_) | (refine H.loadN (ls := b32 x.dig) rfl rfl rfl (row_dig (by repeat (first | exact .here _ _ _ | apply At.there))) rfl rfl ?_) | (refine H.storeN (ls := ({ Bod.zero x.kind with k := x.k } : Bod).vals none 0) (vs := b32 x.dig) (ls' := (x.ownK 6).vals none 0) rfl rfl rfl (bytesV_one (b32L x.dig)) rfl (splice_dig x) (show 44 + 32 ≤ 76 by decide) (by repeat (first | exact .here _ _ _ | apply At.there)) ?_))
  refine H.loadN (ls := (x.ownK 6).vals none 0) rfl rfl rfl (Rd.ofRow (by repeat (first | exact .here _ _ _ | apply At.there))) rfl rfl ?_
  refine H.storeN (ls := (Bod.zero 0).vals none 0) (vs := (x.ownK 6).vals none 0) (ls' := (x.ownK 6).vals none 0) rfl rfl rfl (allOne_mem rfl) rfl rfl (Nat.le_refl 76) (by repeat (first | exact .here _ _ _ | apply At.there)) ?_
  repeat (first | (first | apply H.nil | apply H.then_normal) | (apply H.ret))
  refine H.drop (.here _ _) ?_
  refine H.drop (.there _ (.here _ _)) ?_
  exact H.retD rfl rfl rfl (Rd.ofRow (by repeat (first | exact .here _ _ _ | apply At.there))) rfl (fun _ s => s.drop (.here _ _)) ⟨rfl, rfl, rfl⟩
theorem own_fn0 {x : Bod} {q : Option Addr} {qc : Nat} (hk : x.kind.toNat = 0 ∨ 7 ≤ x.kind.toNat) : Fn Try.prog 49 [.agg (x.vals q qc).toArray] f F (Ret (.agg ((x.ownK 7).vals none 0).toArray) f F) := by
  refine Fn.enter Try.func49 rfl Try.ntmps49 rfl (L := [(0, _)]) ⟨rfl, trivial⟩ fun base => ?_
  repeat (first | ((apply H.assign); (iterate 3 exact rfl)) | (apply H.fieldAddr; (iterate 3 exact rfl); exact inferInstance; exact rfl) | (apply H.load1; (iterate 3 exact rfl); apply Rd1.ofRow; (repeat (first | exact .here _ _ _ | apply At.there)); (iterate 2 exact rfl)) | (first | apply H.seq | apply H.region | apply H.nil | apply H.then_normal) | ((first | apply H.cmp | apply H.build); (iterate 5 exact rfl)) | (first | apply H.skip | apply H.block | apply H.in_normal) | (apply H.cond_no; exact rfl; (omega)) | (refine H.box (ls := x.vals q qc) rfl rfl rfl rfl fun xb => ?_) | (refine H.alloc (ls := (Bod.zero 0).vals none 0) rfl rfl rfl fun _ => ?_) | (refine H.storeN (ls := (Bod.zero 0).vals none 0) (vs := (Bod.zero x.kind).vals none 0) (ls' := (Bod.zero x.kind).vals none 0) rfl rfl rfl (allOne_mem rfl) rfl rfl (Nat.le_refl 76) (by repeat (first | exact .here _ _ _ | apply At.there)) ?_))
  refine H.loadN (ls := (x.ownK 7).vals none 0) rfl rfl rfl (Rd.ofRow (by repeat (first | exact .here _ _ _ | apply At.there))) rfl rfl ?_
  refine H.storeN (ls := (Bod.zero 0).vals none 0) (vs := (x.ownK 7).vals none 0) (ls' := (x.ownK 7).vals none 0) rfl rfl rfl (allOne_mem rfl) rfl rfl (Nat.le_refl 76) (by repeat (first | exact .here _ _ _ | apply At.there)) ?_
  repeat (first | (first | apply H.nil | apply H.then_normal) | (apply H.ret))
  refine H.drop (.here _ _) ?_
  refine H.drop (.there _ (.here _ _)) ?_
  exact H.retD rfl rfl rfl (Rd.ofRow (by repeat (first | exact .here _ _ _ | apply At.there))) rfl (fun _ s => s.drop (.here _ _)) ⟨rfl, rfl, rfl⟩
theorem own_fn {x : Bod} {q : Option Addr} {qc : Nat} (hq : QAt f q x.q) : Fn Try.prog 49 [.agg (x.vals q qc).toArray] f F
    (RetP (fun i : Option Addr × Nat => QAt f i.1 x.own.q) (fun i => .agg (x.own.vals i.1 i.2).toArray) f (fun _ => F)) := by
  have fin : ∀ (k : Nat) (q' : Option Addr) (qc' : Nat), x.own = x.ownK k → QAt f q' (x.ownK k).q → Fn Try.prog 49 [.agg (x.vals q qc).toArray] f F (Ret (.agg ((x.ownK k).vals q' qc').toArray) f F) →
      Fn Try.prog 49 [.agg (x.vals q qc).toArray] f F (RetP (fun i : Option Addr × Nat => QAt f i.1 x.own.q) (fun i => .agg (x.own.vals i.1 i.2).toArray) f (fun _ => F)) := fun k q' qc' e hq' h =>
    h.mono fun v f' A' hr => by
      obtain ⟨rfl, rfl, rfl⟩ := hr
      exact ⟨(q', qc'), by rw [e]; exact hq', by rw [e], rfl, rfl⟩
  generalize hk : x.kind.toNat = kind
  match kind, hk with
  | 1, hk => exact fin 1 none 0 (by unfold Bod.own; rw [hk]) (QAt.nil _ _) (own_fn1 f F hk)
  | 2, hk => exact fin 2 none 0 (by unfold Bod.own; rw [hk]) (QAt.nil _ _) (own_fn2 f F hk)
  | 3, hk => exact fin 3 none 0 (by unfold Bod.own; rw [hk]) (QAt.nil _ _) (own_fn3 f F hk)
  | 4, hk => exact fin 4 q qc (by unfold Bod.own; rw [hk]) hq (own_fn4 f F hk)
  | 5, hk => exact fin 5 none 0 (by unfold Bod.own; rw [hk]) (QAt.nil _ _) (own_fn5 f F hk)
  | 6, hk => exact fin 6 none 0 (by unfold Bod.own; rw [hk]) (QAt.nil _ _) (own_fn6 f F hk)
  | 0, hk => exact fin 7 none 0 (by unfold Bod.own; rw [hk]; rfl) (QAt.nil _ _) (own_fn0 f F (.inl hk))
  | k + 7, hk => exact fin 7 none 0 (by unfold Bod.own; rw [hk]; rfl) (QAt.nil _ _) (own_fn0 f F (.inr (by omega)))
end
end Go.Proofs.Ytcaofnfemogleaa

/- Layer 8, messages: may a message be? (the document) -/
namespace Go.Proofs.Ytcaofnfemogleaa
set_option linter.unusedSectionVars false
set_option linter.unusedSimpArgs false
set_option linter.unusedVariables false
open Go
section
variable (f : Frag) (F : List HP)
theorem rasked_fn (r : Req) : Fn Try.prog 50 [.agg r.vals.toArray] f F (Ret (.bool (decide r.asked)) f F) := by
  by_cases h1 : 1 ≤ r.client
  · by_cases h2 : r.client ≤ 8
    · by_cases h3 : 1 ≤ r.time
      · by_cases h4 : r.time ≤ 4611686018427387904
        · by_cases h5 : r.key.size ≤ 32
          · by_cases h6 : r.to.size ≤ 32
            · by_cases h7 : r.val.size ≤ 128
              · skip
                refine Fn.enter Try.func50 rfl Try.ntmps50 rfl (L := [(0, _)]) ⟨rfl, trivial⟩ fun base => ?_
                repeat (first | ((first | apply H.move | apply H.assign | apply H.len_string); (iterate 3 exact rfl)) | (apply H.fieldAddr; (iterate 3 exact rfl); exact inferInstance; exact rfl) | (apply H.load1; (iterate 3 exact rfl); apply Rd1.ofRow; (repeat (exact .here _ _ _)); (iterate 2 exact rfl)) | (first | apply H.seq | apply H.region | apply H.nil | apply H.then_normal) | ((apply H.cmp); (iterate 5 exact rfl)) | (apply H.pickT; (iterate 4 exact rfl)) | (apply H.ret) | (apply H.gyes; (iterate 3 exact rfl); (first | assumption | omega)) | (refine H.box (ls := r.vals) rfl rfl rfl rfl fun xb => ?_))
                refine H.drop (.here _ _) ?_
                refine H.ret1 rfl rfl (fun _ h => h) ⟨?_, rfl, rfl⟩
                congr 1
                apply decide_eq_decide.2
                unfold Req.asked
                omega
              · skip
                refine Fn.enter Try.func50 rfl Try.ntmps50 rfl (L := [(0, _)]) ⟨rfl, trivial⟩ fun base => ?_
                repeat (first | ((first | apply H.move | apply H.assign | apply H.len_string); (iterate 3 exact rfl)) | (apply H.fieldAddr; (iterate 3 exact rfl); exact inferInstance; exact rfl) | (apply H.load1; (iterate 3 exact rfl); apply Rd1.ofRow; (repeat (exact .here _ _ _)); (iterate 2 exact rfl)) | (first | apply H.seq | apply H.region | apply H.nil | apply H.then_normal) | ((apply H.cmp); (iterate 5 exact rfl)) | (apply H.pass; (iterate 2 exact rfl)) | (apply H.pickT; (iterate 4 exact rfl)) | ((apply H.pickF); (iterate 4 exact rfl)) | (apply H.ret) | (apply H.gyes; (iterate 3 exact rfl); (first | assumption | omega)) | (apply H.gno; (iterate 3 exact rfl); (omega)) | (refine H.box (ls := r.vals) rfl rfl rfl rfl fun xb => ?_))
                refine H.drop (.here _ _) ?_
                refine H.ret1 rfl rfl (fun _ h => h) ⟨?_, rfl, rfl⟩
                rw [decide_eq_false]
                unfold Req.asked
                omega
            · skip
              refine Fn.enter Try.func50 rfl Try.ntmps50 rfl (L := [(0, _)]) ⟨rfl, trivial⟩ fun base => ?_
              repeat (first | ((first | apply H.move | apply H.assign | apply H.len_string); (iterate 3 exact rfl)) | (apply H.fieldAddr; (iterate 3 exact rfl); exact inferInstance; exact rfl) | (apply H.load1; (iterate 3 exact rfl); apply Rd1.ofRow; (repeat (exact .here _ _ _)); (iterate 2 exact rfl)) | (first | apply H.seq | apply H.region | apply H.nil | apply H.then_normal) | ((apply H.cmp); (iterate 5 exact rfl)) | (apply H.pass; (iterate 2 exact rfl)) | (apply H.pickT; (iterate 4 exact rfl)) | ((apply H.pickF); (iterate 4 exact rfl)) | (apply H.ret) | (apply H.gyes; (iterate 3 exact rfl); (first | assumption | omega)) | (apply H.gno; (iterate 3 exact rfl); (omega)) | (refine H.box (ls := r.vals) rfl rfl rfl rfl fun xb => ?_))
              refine H.drop (.here _ _) ?_
              refine H.ret1 rfl rfl (fun _ h => h) ⟨?_, rfl, rfl⟩
              rw [decide_eq_false]
              unfold Req.asked
              omega
          · skip
            refine Fn.enter Try.func50 rfl Try.ntmps50 rfl (L := [(0, _)]) ⟨rfl, trivial⟩ fun base => ?_
            repeat (first | ((first | apply H.move | apply H.assign | apply H.len_string); (iterate 3 exact rfl)) | (apply H.fieldAddr; (iterate 3 exact rfl); exact inferInstance; exact rfl) | (apply H.load1; (iterate 3 exact rfl); apply Rd1.ofRow; (repeat (exact .here _ _ _)); (iterate 2 exact rfl)) | (first | apply H.seq | apply H.region | apply H.nil | apply H.then_normal) | ((apply H.cmp); (iterate 5 exact rfl)) | (apply H.pass; (iterate 2 exact rfl)) | (apply H.pickT; (iterate 4 exact rfl)) | ((apply H.pickF); (iterate 4 exact rfl)) | (apply H.ret) | (apply H.gyes; (iterate 3 exact rfl); (assumption)) | (apply H.gno; (iterate 3 exact rfl); (omega)) | (refine H.box (ls := r.vals) rfl rfl rfl rfl fun xb => ?_))
            refine H.drop (.here _ _) ?_
            refine H.ret1 rfl rfl (fun _ h => h) ⟨?_, rfl, rfl⟩
            rw [decide_eq_false]
            unfold Req.asked
            omega
        · skip
          refine Fn.enter Try.func50 rfl Try.ntmps50 rfl (L := [(0, _)]) ⟨rfl, trivial⟩ fun base => ?_
          repeat (first | ((first | apply H.move | apply H.assign | apply H.len_string); (iterate 3 exact rfl)) | (apply H.fieldAddr; (iterate 3 exact rfl); exact inferInstance; exact rfl) | (apply H.load1; (iterate 3 exact rfl); apply Rd1.ofRow; (repeat (exact .here _ _ _)); (iterate 2 exact rfl)) | (first | apply H.seq | apply H.region | apply H.nil | apply H.then_normal) | ((apply H.cmp); (iterate 5 exact rfl)) | (apply H.pass; (iterate 2 exact rfl)) | (apply H.pickT; (iterate 4 exact rfl)) | ((apply H.pickF); (iterate 4 exact rfl)) | (apply H.ret) | (apply H.gyes; (iterate 3 exact rfl); (assumption)) | (apply H.gno; (iterate 3 exact rfl); (assumption)) | (refine H.box (ls := r.vals) rfl rfl rfl rfl fun xb => ?_))
          refine H.drop (.here _ _) ?_
          refine H.ret1 rfl rfl (fun _ h => h) ⟨?_, rfl, rfl⟩
          rw [decide_eq_false]
          unfold Req.asked
          omega
      · skip
        refine Fn.enter Try.func50 rfl Try.ntmps50 rfl (L := [(0, _)]) ⟨rfl, trivial⟩ fun base => ?_
        repeat (first | ((first | apply H.move | apply H.assign | apply H.len_string); (iterate 3 exact rfl)) | (apply H.fieldAddr; (iterate 3 exact rfl); exact inferInstance; exact rfl) | (apply H.load1; (iterate 3 exact rfl); apply Rd1.ofRow; (repeat (exact .here _ _ _)); (iterate 2 exact rfl)) | (first | apply H.seq | apply H.region | apply H.nil | apply H.then_normal) | ((apply H.cmp); (iterate 5 exact rfl)) | (apply H.pass; (iterate 2 exact rfl)) | (apply H.pickT; (iterate 4 exact rfl)) | ((apply H.pickF); (iterate 4 exact rfl)) | (apply H.ret) | (apply H.gyes; (iterate 3 exact rfl); (assumption)) | (apply H.gno; (iterate 3 exact rfl); (assumption)) | (refine H.box (ls := r.vals) rfl rfl rfl rfl fun xb => ?_))
        refine H.drop (.here _ _) ?_
        refine H.ret1 rfl rfl (fun _ h => h) ⟨?_, rfl, rfl⟩
        rw [decide_eq_false]
        unfold Req.asked
        omega
    · skip
      refine Fn.enter Try.func50 rfl Try.ntmps50 rfl (L := [(0, _)]) ⟨rfl, trivial⟩ fun base => ?_
      repeat (first | ((first | apply H.move | apply H.assign | apply H.len_string); (iterate 3 exact rfl)) | (apply H.fieldAddr; (iterate 3 exact rfl); exact inferInstance; exact rfl) | (apply H.load1; (iterate 3 exact rfl); apply Rd1.ofRow; (repeat (exact .here _ _ _)); (iterate 2 exact rfl)) | (first | apply H.seq | apply H.region | apply H.nil | apply H.then_normal) | ((apply H.cmp); (iterate 5 exact rfl)) | (apply H.pass; (iterate 2 exact rfl)) | (apply H.pickT; (iterate 4 exact rfl)) | ((apply H.pickF); (iterate 4 exact rfl)) | (apply H.ret) | (apply H.gyes; (iterate 3 exact rfl); (assumption)) | (apply H.gno; (iterate 3 exact rfl); (assumption)) | (refine H.box (ls := r.vals) rfl rfl rfl rfl fun xb => ?_))
      refine H.drop (.here _ _) ?_
      refine H.ret1 rfl rfl (fun _ h => h) ⟨?_, rfl, rfl⟩
      rw [decide_eq_false]
      unfold Req.asked
      omega
  · skip
    refine Fn.enter Try.func50 rfl Try.ntmps50 rfl (L := [(0, _)]) ⟨rfl, trivial⟩ fun base => ?_
    repeat (first | ((first | apply H.move | apply H.assign | apply H.len_string); (iterate 3 exact rfl)) | (apply H.fieldAddr; (iterate 3 exact rfl); exact inferInstance; exact rfl) | (apply H.load1; (iterate 3 exact rfl); apply Rd1.ofRow; (repeat (exact .here _ _ _)); (iterate 2 exact rfl)) | (first | apply H.seq | apply H.region | apply H.nil | apply H.then_normal) | ((apply H.cmp); (iterate 5 exact rfl)) | (apply H.pass; (iterate 2 exact rfl)) | ((apply H.pickF); (iterate 4 exact rfl)) | (apply H.ret) | (apply H.gno; (iterate 3 exact rfl); (assumption)) | (refine H.box (ls := r.vals) rfl rfl rfl rfl fun xb => ?_))
    refine H.drop (.here _ _) ?_
    refine H.ret1 rfl rfl (fun _ h => h) ⟨?_, rfl, rfl⟩
    rw [decide_eq_false]
    unfold Req.asked
    omega

/-- The replica ahead of a place. -/
def wq (q : List (Int × Int)) : Nat → Int
  | 0 => 0
  | j + 1 => (q.getD j (0, 0)).1
/-- Behind the first test. -/
theorem quo_loop {x : Bod} (i : Nat) (hi : i < x.q.length) (w : Int) : quo w (x.q.drop i) = if x.q[i].1 ≤ w ∨ 11 < x.q[i].1 ∨ x.q[i].2 < 1 ∨ 65536 < x.q[i].2 then false else quo x.q[i].1 (x.q.drop (i + 1)) := by
  rw [List.drop_eq_getElem_cons hi]; rfl
theorem rbody4_fn {x : Bod} {q : Option Addr} {qc : Nat} (hq : QAt f q x.q) (hl : x.q.length ≤ 1000000000) (hk : x.kind.toNat = 4) (hs : Bod.eqB x.own x = true) (hv : x.view < 1073741824) :
    Fn Try.prog 39 [.agg (x.vals q qc).toArray] f F (Ret (.bool x.may) f F) := by
  unfold Bod.may
  rw [hk]
  refine Fn.enter Try.func39 rfl Try.ntmps39 rfl (L := [(0, _)]) ⟨rfl, trivial⟩ fun base => ?_
  repeat ((first | apply H.seq | apply H.region))
  refine H.box (ls := x.vals q qc) rfl rfl rfl rfl fun xb => ?_
  repeat (first | ((apply H.assign); (iterate 3 exact rfl)) | (first | apply H.seq | apply H.nil | apply H.then_normal))
  refine H.drawB (by kernel_rfl) (by decide +kernel) (by first | exact blind_fn | exact blind_seq blind_fn | exact blind_seq (blind_seq blind_fn) | (repeat (first | exact blind_fn | refine blind_seq ?_ | refine blind_block ?_ | refine blind_loop ?_))) (S := [_]) rfl ?_
  refine HB.quiet [(0, false), (2, false)] 8 (by kernel_rfl) ?_
  refine HQ.loadN (ls := x.vals q qc) rfl rfl rfl (Rd.ofRow (by repeat (first | exact .here _ _ _ | apply At.there))) rfl rfl ?_
  refine HQ.loadN (ls := x.vals q qc) rfl rfl rfl (Rd.ofRow (by repeat (first | exact .here _ _ _ | apply At.there))) rfl rfl ?_
  refine HQ.more rfl ?_
  refine HB.ev1 (i := 1) (by kernel_rfl) rfl ?_
  refine H.callP rfl rfl rfl (own_fn f _ hq) fun i hqo => ?_
  repeat ((apply H.nil))
  refine H.on0 rfl ?_
  refine HB.ev1 (i := 3) (by kernel_rfl) rfl ?_
  have hlo : x.own.q.length ≤ 1000000000 := by
    have : x.own.q = x.q ∨ x.own.q = [] := by
      unfold Bod.own
      match x.kind.toNat with
      | 0 => exact .inr rfl
      | 1 => exact .inr rfl
      | 2 => exact .inr rfl
      | 3 => exact .inr rfl
      | 4 => exact .inl rfl
      | 5 => exact .inr rfl
      | 6 => exact .inr rfl
      | k + 7 => exact .inr rfl
    rcases this with h | h <;> rw [h]
    · exact hl
    · exact Nat.zero_le _
  refine H.callR rfl rfl rfl (rsame_fn f _ hqo hq hlo) ?_
  repeat ((apply H.nil))
  refine H.on0 rfl ?_
  refine HB.quiet [(4, false), (5, false), (6, false), (7, false), (8, false), (9, false)] 0 (by kernel_rfl) ?_
  have hn : (!true) = false := rfl
  rw [hs, decide_eq_true hv, Bool.true_and, Bool.true_and]
  repeat (first | ((apply HQ.move); (iterate 3 exact rfl)) | (apply HQ.fieldAddr; (iterate 3 exact rfl); exact inferInstance; exact rfl) | (apply HQ.load1; (iterate 3 exact rfl); apply Rd1.ofRow; (repeat (exact .here _ _ _)); (iterate 2 exact rfl)) | ((apply HQ.cmp); (iterate 5 exact rfl)) | ((first | apply HQ.pickF | apply HQ.not); (iterate 4 exact rfl)))
  refine HQ.more rfl ?_
  refine HB.done (by kernel_rfl) ?_
  repeat (first | ((apply H.assign); (iterate 3 exact rfl)) | (apply H.fieldAddr; (iterate 3 exact rfl); exact inferInstance; exact rfl) | (apply H.load1; (iterate 3 exact rfl); apply Rd1.ofRow; (repeat (exact .here _ _ _)); (iterate 2 exact rfl)) | (first | apply H.seq | apply H.region | apply H.nil | apply H.then_normal) | ((apply H.cmp); (iterate 5 exact rfl)) | (first | apply H.skip | apply H.block) | (apply H.cond_yes; exact rfl; (omega)) | (apply H.cond_no; exact rfl; (omega)))
  refine H.loop (ι := Nat) (fun i => [(3, .int .i64 (i : Int)), (1, .pointer (some ⟨xb, 0, none⟩))]) (fun _ => f) (fun _ => row xb 59 (x.vals q qc) :: F) (fun i => i ≤ x.q.length ∧ quo 0 x.q = quo (wq x.q i) (x.q.drop i) ∧ (0 < i → 1 ≤ wq x.q i)) (fun i => x.q.length - i) 0 ⟨Nat.zero_le _, rfl, fun h => absurd h (Nat.lt_irrefl _)⟩ ⟨rfl, rfl, trivial⟩ rfl rfl fun i hi => ?_
  obtain ⟨hi, hw, hwp⟩ : i ≤ x.q.length ∧ quo 0 x.q = quo (wq x.q i) (x.q.drop i) ∧ (0 < i → 1 ≤ wq x.q i) := hi
  by_cases hlt : i < x.q.length
  · have hx : x.q[i]? = some x.q[i] := List.getElem?_eq_getElem hlt
    have hquo := quo_loop i hlt (wq x.q i)
    have hwz : wq x.q (i + 1) = x.q[i].1 := by show (x.q.getD i (0, 0)).1 = _; rw [List.getD_eq_getElem?_getD, hx]; rfl
    generalize x.q[i] = z at hx hquo hwz
    obtain ⟨b, off, cs, T, fr, hqb, hfb, hcs⟩ := hq i z hx
    have hq' := hq
    subst hqb
    have rd : ∀ A, Rd f A b (off + i * 2) (pairV z) := fun A => Rd.imm hfb hcs
    repeat (first | ((first | apply H.move | apply H.len_slice); (iterate 3 exact rfl)) | (apply H.fieldAddr; (iterate 3 exact rfl); exact inferInstance; exact rfl) | (apply H.load1; (iterate 3 exact rfl); apply Rd1.ofRow; (repeat (exact .here _ _ _)); (iterate 2 exact rfl)) | (first | apply H.seq | apply H.region | apply H.nil | apply H.then_normal) | ((apply H.cmp); (iterate 5 exact rfl)) | (first | apply H.skip | apply H.block) | (apply H.cond_yes; exact rfl; (omega)))
    refine H.index_slice rfl rfl rfl rfl hlt rfl ?_
    refine H.loadN (ls := pairV z) rfl rfl rfl (rd _) rfl rfl ?_
    refine H.alloc rfl rfl rfl fun pb => ?_
    refine H.storeN (ls := [.int .i64 0, .int .u64 0]) (vs := pairV z) (ls' := pairV z) rfl rfl rfl (allOne_mem rfl) rfl rfl (Nat.le_refl 2) (by repeat (first | exact .here _ _ _ | apply At.there)) ?_
    repeat ((first | apply H.seq | apply H.nil | apply H.then_normal))
    refine H.drawQ (by kernel_rfl) (by decide +kernel) (by first | exact blind_fn | exact blind_seq blind_fn | exact blind_seq (blind_seq blind_fn) | (repeat (first | exact blind_fn | refine blind_seq ?_ | refine blind_block ?_ | refine blind_loop ?_))) ?_
    by_cases hi0 : i = 0
    · have hw0 : wq x.q i = 0 := by rw [hi0]; rfl
      rw [hw0] at hquo hw
      have j : Nat := 0
      have rd2 := rd
      by_cases h1 : 1 ≤ z.1
      · skip
        by_cases h2 : z.1 ≤ 11
        · skip
          by_cases h4 : 1 ≤ z.2
          · skip
            by_cases h5 : z.2 ≤ 65536
            · skip
              repeat (first | ((apply HQ.move); (iterate 3 exact rfl)) | (apply HQ.fieldAddr; (iterate 3 exact rfl); exact inferInstance; exact rfl) | (apply HQ.load1; (iterate 3 exact rfl); apply Rd1.ofRow; (repeat (exact .here _ _ _)); (iterate 2 exact rfl)) | ((apply HQ.done0); exact rfl) | ((apply HQ.cmp); (iterate 5 exact rfl)) | (apply HQ.pass; (iterate 2 exact rfl)) | ((apply HQ.pickF); (iterate 4 exact rfl)) | (apply HQ.gno; (iterate 3 exact rfl); (omega)))
              repeat (first | ((first | apply H.move | apply H.assign); (iterate 3 exact rfl)) | (first | apply H.region | apply H.nil | apply H.then_normal) | ((apply H.ar; (iterate 4 exact rfl)); (with_reducible apply wr_i64_n1; omega); exact rfl) | (first | apply H.skip | apply H.in_normal) | (apply H.cond_no; exact rfl; (omega)))
              refine H.drop (.here _ _) ?_
              first
                | exact H.again (i + 1) ⟨by show i + 1 ≤ x.q.length; omega, by show quo 0 x.q = _; rw [hw, hquo, if_neg (by omega), ← hwz], by show 0 < i + 1 → 1 ≤ wq x.q (i + 1); rw [hwz]; omega⟩ (by show x.q.length - (i + 1) < x.q.length - i; omega) ⟨rfl, rfl, trivial⟩ rfl rfl
                | (refine H.drop (.here _ _) ?_
                   refine H.ret1 rfl rfl (fun _ h => h) ⟨?_, rfl, rfl⟩
                   rw [show x.mayK 4 = (decide (1 ≤ x.view) && (quo 0 x.q && decide (0 < x.q.length))) from rfl, hw, hquo, if_pos (by omega)]
                   simp)
            · skip
              repeat (first | ((apply HQ.move); (iterate 3 exact rfl)) | (apply HQ.fieldAddr; (iterate 3 exact rfl); exact inferInstance; exact rfl) | (apply HQ.load1; (iterate 3 exact rfl); apply Rd1.ofRow; (repeat (exact .here _ _ _)); (iterate 2 exact rfl)) | ((apply HQ.done0); exact rfl) | ((apply HQ.cmp); (iterate 5 exact rfl)) | (apply HQ.pass; (iterate 2 exact rfl)) | ((apply HQ.pickF); (iterate 4 exact rfl)) | (apply HQ.gno; (iterate 3 exact rfl); (omega)))
              repeat (first | ((apply H.assign); (iterate 3 exact rfl)) | (first | apply H.seq | apply H.region | apply H.nil | apply H.then_normal) | (first | apply H.ret | apply H.then_ret | apply H.in_ret | apply H.loop_ret) | (apply H.cond_yes; exact rfl; (omega)))
              refine H.drop (.here _ _) ?_
              first
                | exact H.again (i + 1) ⟨by show i + 1 ≤ x.q.length; omega, by show quo 0 x.q = _; rw [hw, hquo, if_neg (by omega), ← hwz], by show 0 < i + 1 → 1 ≤ wq x.q (i + 1); rw [hwz]; omega⟩ (by show x.q.length - (i + 1) < x.q.length - i; omega) ⟨rfl, rfl, trivial⟩ rfl rfl
                | (refine H.drop (.here _ _) ?_
                   refine H.ret1 rfl rfl (fun _ h => h) ⟨?_, rfl, rfl⟩
                   rw [show x.mayK 4 = (decide (1 ≤ x.view) && (quo 0 x.q && decide (0 < x.q.length))) from rfl, hw, hquo, if_pos (by omega)]
                   simp)
          · skip
            repeat (first | ((apply HQ.move); (iterate 3 exact rfl)) | (apply HQ.fieldAddr; (iterate 3 exact rfl); exact inferInstance; exact rfl) | (apply HQ.load1; (iterate 3 exact rfl); apply Rd1.ofRow; (repeat (exact .here _ _ _)); (iterate 2 exact rfl)) | ((apply HQ.done0); exact rfl) | ((apply HQ.cmp); (iterate 5 exact rfl)) | (apply HQ.pass; (iterate 2 exact rfl)) | (apply HQ.pickT; (iterate 4 exact rfl)) | ((apply HQ.pickF); (iterate 4 exact rfl)) | (apply HQ.gyes; (iterate 3 exact rfl); (omega)) | (apply HQ.gno; (iterate 3 exact rfl); (omega)))
            repeat (first | ((apply H.assign); (iterate 3 exact rfl)) | (first | apply H.seq | apply H.region | apply H.nil | apply H.then_normal) | (apply H.cond_true; exact rfl) | (first | apply H.ret | apply H.then_ret | apply H.in_ret | apply H.loop_ret))
            refine H.drop (.here _ _) ?_
            first
              | exact H.again (i + 1) ⟨by show i + 1 ≤ x.q.length; omega, by show quo 0 x.q = _; rw [hw, hquo, if_neg (by omega), ← hwz], by show 0 < i + 1 → 1 ≤ wq x.q (i + 1); rw [hwz]; omega⟩ (by show x.q.length - (i + 1) < x.q.length - i; omega) ⟨rfl, rfl, trivial⟩ rfl rfl
              | (refine H.drop (.here _ _) ?_
                 refine H.ret1 rfl rfl (fun _ h => h) ⟨?_, rfl, rfl⟩
                 rw [show x.mayK 4 = (decide (1 ≤ x.view) && (quo 0 x.q && decide (0 < x.q.length))) from rfl, hw, hquo, if_pos (by omega)]
                 simp)
        · skip
          repeat (first | ((apply HQ.move); (iterate 3 exact rfl)) | (apply HQ.fieldAddr; (iterate 3 exact rfl); exact inferInstance; exact rfl) | (apply HQ.load1; (iterate 3 exact rfl); apply Rd1.ofRow; (repeat (exact .here _ _ _)); (iterate 2 exact rfl)) | ((apply HQ.done0); exact rfl) | ((apply HQ.cmp); (iterate 5 exact rfl)) | (apply HQ.pass; (iterate 2 exact rfl)) | (apply HQ.pickT; (iterate 4 exact rfl)) | ((apply HQ.pickF); (iterate 4 exact rfl)) | (apply HQ.gyes; (iterate 3 exact rfl); (omega)) | (apply HQ.gno; (iterate 3 exact rfl); (omega)))
          repeat (first | ((apply H.assign); (iterate 3 exact rfl)) | (first | apply H.seq | apply H.region | apply H.nil | apply H.then_normal) | (apply H.cond_true; exact rfl) | (first | apply H.ret | apply H.then_ret | apply H.in_ret | apply H.loop_ret))
          refine H.drop (.here _ _) ?_
          first
            | exact H.again (i + 1) ⟨by show i + 1 ≤ x.q.length; omega, by show quo 0 x.q = _; rw [hw, hquo, if_neg (by omega), ← hwz], by show 0 < i + 1 → 1 ≤ wq x.q (i + 1); rw [hwz]; omega⟩ (by show x.q.length - (i + 1) < x.q.length - i; omega) ⟨rfl, rfl, trivial⟩ rfl rfl
            | (refine H.drop (.here _ _) ?_
               refine H.ret1 rfl rfl (fun _ h => h) ⟨?_, rfl, rfl⟩
               rw [show x.mayK 4 = (decide (1 ≤ x.view) && (quo 0 x.q && decide (0 < x.q.length))) from rfl, hw, hquo, if_pos (by omega)]
               simp)
      · skip
        repeat (first | ((apply HQ.move); (iterate 3 exact rfl)) | (apply HQ.fieldAddr; (iterate 3 exact rfl); exact inferInstance; exact rfl) | (apply HQ.load1; (iterate 3 exact rfl); apply Rd1.ofRow; (repeat (exact .here _ _ _)); (iterate 2 exact rfl)) | ((apply HQ.done0); exact rfl) | ((apply HQ.cmp); (iterate 5 exact rfl)) | (apply HQ.pass; (iterate 2 exact rfl)) | (apply HQ.pickT; (iterate 4 exact rfl)) | (apply HQ.gyes; (iterate 3 exact rfl); (omega)))
        repeat (first | ((apply H.assign); (iterate 3 exact rfl)) | (first | apply H.seq | apply H.region | apply H.nil | apply H.then_normal) | (apply H.cond_true; exact rfl) | (first | apply H.ret | apply H.then_ret | apply H.in_ret | apply H.loop_ret))
        refine H.drop (.here _ _) ?_
        first
          | exact H.again (i + 1) ⟨by show i + 1 ≤ x.q.length; omega, by show quo 0 x.q = _; rw [hw, hquo, if_neg (by omega), ← hwz], by show 0 < i + 1 → 1 ≤ wq x.q (i + 1); rw [hwz]; omega⟩ (by show x.q.length - (i + 1) < x.q.length - i; omega) ⟨rfl, rfl, trivial⟩ rfl rfl
          | (refine H.drop (.here _ _) ?_
             refine H.ret1 rfl rfl (fun _ h => h) ⟨?_, rfl, rfl⟩
             rw [show x.mayK 4 = (decide (1 ≤ x.view) && (quo 0 x.q && decide (0 < x.q.length))) from rfl, hw, hquo, if_pos (by omega)]
             simp)
    · obtain ⟨j, hj⟩ : ∃ j, i = j + 1 := ⟨i - 1, by omega⟩
      obtain ⟨y, hy⟩ : ∃ y, x.q[j]? = some y := ⟨x.q[j]'(by omega), List.getElem?_eq_getElem (by omega)⟩
      have hwj0 : wq x.q (j + 1) = y.1 := by show (x.q.getD j (0, 0)).1 = _; rw [List.getD_eq_getElem?_getD, hy]; rfl
      have hwj : wq x.q i = y.1 := by rw [← hwj0, hj]
      have hwp := hwp (by omega)
      rw [hwj] at hquo hwp hw
      obtain ⟨b2, off2, cs2, T2, fr2, hqb2, hfb2, hcs2⟩ := hq j y hy
      have rd2 : ∀ A, Rd f A b2 (off2 + j * 2) (pairV y) := fun A => Rd.imm hfb2 hcs2
      cases hqb2
      by_cases h1 : 1 ≤ z.1
      · skip
        by_cases h2 : z.1 ≤ 11
        · skip
          by_cases h3 : y.1 < z.1
          · skip
            by_cases h4 : 1 ≤ z.2
            · skip
              by_cases h5 : z.2 ≤ 65536
              · skip
                repeat (first | ((apply HQ.move); (iterate 3 exact rfl)) | (apply HQ.fieldAddr; (iterate 3 exact rfl); exact inferInstance; exact rfl) | (apply HQ.load1; (iterate 3 exact rfl); apply Rd1.ofRow; (repeat (first | exact .here _ _ _ | apply At.there)); (iterate 2 exact rfl)) | ((apply HQ.done0); exact rfl) | ((apply HQ.cmp); (iterate 5 exact rfl)) | ((apply HQ.ar; (iterate 4 exact rfl)); (with_reducible apply wr_i64; omega); exact rfl) | (apply HQ.pickT; (iterate 4 exact rfl)) | ((apply HQ.pickF); (iterate 4 exact rfl)) | (apply HQ.gyes; (iterate 3 exact rfl); (omega)) | (apply HQ.gno; (iterate 3 exact rfl); (omega)) | (refine HQ.index_slice (i := j) rfl rfl rfl (by omega) (by omega) rfl ?_) | (refine HQ.load1 rfl rfl rfl (.of (rd2 _) (i := 0) rfl) rfl ?_))
                repeat (first | ((first | apply H.move | apply H.assign); (iterate 3 exact rfl)) | (first | apply H.region | apply H.nil | apply H.then_normal) | ((apply H.ar; (iterate 4 exact rfl)); (with_reducible apply wr_i64_n1; omega); exact rfl) | (first | apply H.skip | apply H.in_normal) | (apply H.cond_no; exact rfl; (omega)))
                refine H.drop (.here _ _) ?_
                first
                  | exact H.again (i + 1) ⟨by show i + 1 ≤ x.q.length; omega, by show quo 0 x.q = _; rw [hw, hquo, if_neg (by omega), ← hwz], by show 0 < i + 1 → 1 ≤ wq x.q (i + 1); rw [hwz]; omega⟩ (by show x.q.length - (i + 1) < x.q.length - i; omega) ⟨rfl, rfl, trivial⟩ rfl rfl
                  | (refine H.drop (.here _ _) ?_
                     refine H.ret1 rfl rfl (fun _ h => h) ⟨?_, rfl, rfl⟩
                     rw [show x.mayK 4 = (decide (1 ≤ x.view) && (quo 0 x.q && decide (0 < x.q.length))) from rfl, hw, hquo, if_pos (by omega)]
                     simp)
              · skip
                repeat (first | ((apply HQ.move); (iterate 3 exact rfl)) | (apply HQ.fieldAddr; (iterate 3 exact rfl); exact inferInstance; exact rfl) | (apply HQ.load1; (iterate 3 exact rfl); apply Rd1.ofRow; (repeat (first | exact .here _ _ _ | apply At.there)); (iterate 2 exact rfl)) | ((apply HQ.done0); exact rfl) | ((apply HQ.cmp); (iterate 5 exact rfl)) | ((apply HQ.ar; (iterate 4 exact rfl)); (with_reducible apply wr_i64; omega); exact rfl) | (apply HQ.pickT; (iterate 4 exact rfl)) | ((apply HQ.pickF); (iterate 4 exact rfl)) | (apply HQ.gyes; (iterate 3 exact rfl); (omega)) | (apply HQ.gno; (iterate 3 exact rfl); (omega)) | (refine HQ.index_slice (i := j) rfl rfl rfl (by omega) (by omega) rfl ?_) | (refine HQ.load1 rfl rfl rfl (.of (rd2 _) (i := 0) rfl) rfl ?_))
                repeat (first | ((apply H.assign); (iterate 3 exact rfl)) | (first | apply H.seq | apply H.region | apply H.nil | apply H.then_normal) | (first | apply H.ret | apply H.then_ret | apply H.in_ret | apply H.loop_ret) | (apply H.cond_yes; exact rfl; (omega)))
                refine H.drop (.here _ _) ?_
                first
                  | exact H.again (i + 1) ⟨by show i + 1 ≤ x.q.length; omega, by show quo 0 x.q = _; rw [hw, hquo, if_neg (by omega), ← hwz], by show 0 < i + 1 → 1 ≤ wq x.q (i + 1); rw [hwz]; omega⟩ (by show x.q.length - (i + 1) < x.q.length - i; omega) ⟨rfl, rfl, trivial⟩ rfl rfl
                  | (refine H.drop (.here _ _) ?_
                     refine H.ret1 rfl rfl (fun _ h => h) ⟨?_, rfl, rfl⟩
                     rw [show x.mayK 4 = (decide (1 ≤ x.view) && (quo 0 x.q && decide (0 < x.q.length))) from rfl, hw, hquo, if_pos (by omega)]
                     simp)
            · skip
              repeat (first | ((apply HQ.move); (iterate 3 exact rfl)) | (apply HQ.fieldAddr; (iterate 3 exact rfl); exact inferInstance; exact rfl) | (apply HQ.load1; (iterate 3 exact rfl); apply Rd1.ofRow; (repeat (first | exact .here _ _ _ | apply At.there)); (iterate 2 exact rfl)) | ((apply HQ.done0); exact rfl) | ((apply HQ.cmp); (iterate 5 exact rfl)) | ((apply HQ.ar; (iterate 4 exact rfl)); (with_reducible apply wr_i64; omega); exact rfl) | (apply HQ.pass; (iterate 2 exact rfl)) | (apply HQ.pickT; (iterate 4 exact rfl)) | ((apply HQ.pickF); (iterate 4 exact rfl)) | (apply HQ.gyes; (iterate 3 exact rfl); (omega)) | (apply HQ.gno; (iterate 3 exact rfl); (omega)) | (refine HQ.index_slice (i := j) rfl rfl rfl (by omega) (by omega) rfl ?_) | (refine HQ.load1 rfl rfl rfl (.of (rd2 _) (i := 0) rfl) rfl ?_))
              repeat (first | ((apply H.assign); (iterate 3 exact rfl)) | (first | apply H.seq | apply H.region | apply H.nil | apply H.then_normal) | (apply H.cond_true; exact rfl) | (first | apply H.ret | apply H.then_ret | apply H.in_ret | apply H.loop_ret))
              refine H.drop (.here _ _) ?_
              first
                | exact H.again (i + 1) ⟨by show i + 1 ≤ x.q.length; omega, by show quo 0 x.q = _; rw [hw, hquo, if_neg (by omega), ← hwz], by show 0 < i + 1 → 1 ≤ wq x.q (i + 1); rw [hwz]; omega⟩ (by show x.q.length - (i + 1) < x.q.length - i; omega) ⟨rfl, rfl, trivial⟩ rfl rfl
                | (refine H.drop (.here _ _) ?_
                   refine H.ret1 rfl rfl (fun _ h => h) ⟨?_, rfl, rfl⟩
                   rw [show x.mayK 4 = (decide (1 ≤ x.view) && (quo 0 x.q && decide (0 < x.q.length))) from rfl, hw, hquo, if_pos (by omega)]
                   simp)
          · skip
            repeat (first | ((apply HQ.move); (iterate 3 exact rfl)) | (apply HQ.fieldAddr; (iterate 3 exact rfl); exact inferInstance; exact rfl) | (apply HQ.load1; (iterate 3 exact rfl); apply Rd1.ofRow; (repeat (first | exact .here _ _ _ | apply At.there)); (iterate 2 exact rfl)) | ((apply HQ.done0); exact rfl) | ((apply HQ.cmp); (iterate 5 exact rfl)) | ((apply HQ.ar; (iterate 4 exact rfl)); (with_reducible apply wr_i64; omega); exact rfl) | (apply HQ.pass; (iterate 2 exact rfl)) | (apply HQ.pickT; (iterate 4 exact rfl)) | ((apply HQ.pickF); (iterate 4 exact rfl)) | (apply HQ.gyes; (iterate 3 exact rfl); (omega)) | (apply HQ.gno; (iterate 3 exact rfl); (omega)) | (refine HQ.index_slice (i := j) rfl rfl rfl (by omega) (by omega) rfl ?_) | (refine HQ.load1 rfl rfl rfl (.of (rd2 _) (i := 0) rfl) rfl ?_))
            repeat (first | ((apply H.assign); (iterate 3 exact rfl)) | (first | apply H.seq | apply H.region | apply H.nil | apply H.then_normal) | (apply H.cond_true; exact rfl) | (first | apply H.ret | apply H.then_ret | apply H.in_ret | apply H.loop_ret))
            refine H.drop (.here _ _) ?_
            first
              | exact H.again (i + 1) ⟨by show i + 1 ≤ x.q.length; omega, by show quo 0 x.q = _; rw [hw, hquo, if_neg (by omega), ← hwz], by show 0 < i + 1 → 1 ≤ wq x.q (i + 1); rw [hwz]; omega⟩ (by show x.q.length - (i + 1) < x.q.length - i; omega) ⟨rfl, rfl, trivial⟩ rfl rfl
              | (refine H.drop (.here _ _) ?_
                 refine H.ret1 rfl rfl (fun _ h => h) ⟨?_, rfl, rfl⟩
                 rw [show x.mayK 4 = (decide (1 ≤ x.view) && (quo 0 x.q && decide (0 < x.q.length))) from rfl, hw, hquo, if_pos (by omega)]
                 simp)
        · skip
          repeat (first | ((apply HQ.move); (iterate 3 exact rfl)) | (apply HQ.fieldAddr; (iterate 3 exact rfl); exact inferInstance; exact rfl) | (apply HQ.load1; (iterate 3 exact rfl); apply Rd1.ofRow; (repeat (exact .here _ _ _)); (iterate 2 exact rfl)) | ((apply HQ.done0); exact rfl) | ((apply HQ.cmp); (iterate 5 exact rfl)) | (apply HQ.pass; (iterate 2 exact rfl)) | (apply HQ.pickT; (iterate 4 exact rfl)) | ((apply HQ.pickF); (iterate 4 exact rfl)) | (apply HQ.gyes; (iterate 3 exact rfl); (omega)) | (apply HQ.gno; (iterate 3 exact rfl); (omega)))
          repeat (first | ((apply H.assign); (iterate 3 exact rfl)) | (first | apply H.seq | apply H.region | apply H.nil | apply H.then_normal) | (apply H.cond_true; exact rfl) | (first | apply H.ret | apply H.then_ret | apply H.in_ret | apply H.loop_ret))
          refine H.drop (.here _ _) ?_
          first
            | exact H.again (i + 1) ⟨by show i + 1 ≤ x.q.length; omega, by show quo 0 x.q = _; rw [hw, hquo, if_neg (by omega), ← hwz], by show 0 < i + 1 → 1 ≤ wq x.q (i + 1); rw [hwz]; omega⟩ (by show x.q.length - (i + 1) < x.q.length - i; omega) ⟨rfl, rfl, trivial⟩ rfl rfl
            | (refine H.drop (.here _ _) ?_
               refine H.ret1 rfl rfl (fun _ h => h) ⟨?_, rfl, rfl⟩
               rw [show x.mayK 4 = (decide (1 ≤ x.view) && (quo 0 x.q && decide (0 < x.q.length))) from rfl, hw, hquo, if_pos (by omega)]
               simp)
      · skip
        repeat (first | ((apply HQ.move); (iterate 3 exact rfl)) | (apply HQ.fieldAddr; (iterate 3 exact rfl); exact inferInstance; exact rfl) | (apply HQ.load1; (iterate 3 exact rfl); apply Rd1.ofRow; (repeat (exact .here _ _ _)); (iterate 2 exact rfl)) | ((apply HQ.done0); exact rfl) | ((apply HQ.cmp); (iterate 5 exact rfl)) | (apply HQ.pass; (iterate 2 exact rfl)) | (apply HQ.pickT; (iterate 4 exact rfl)) | (apply HQ.gyes; (iterate 3 exact rfl); (omega)))
        repeat (first | ((apply H.assign); (iterate 3 exact rfl)) | (first | apply H.seq | apply H.region | apply H.nil | apply H.then_normal) | (apply H.cond_true; exact rfl) | (first | apply H.ret | apply H.then_ret | apply H.in_ret | apply H.loop_ret))
        refine H.drop (.here _ _) ?_
        first
          | exact H.again (i + 1) ⟨by show i + 1 ≤ x.q.length; omega, by show quo 0 x.q = _; rw [hw, hquo, if_neg (by omega), ← hwz], by show 0 < i + 1 → 1 ≤ wq x.q (i + 1); rw [hwz]; omega⟩ (by show x.q.length - (i + 1) < x.q.length - i; omega) ⟨rfl, rfl, trivial⟩ rfl rfl
          | (refine H.drop (.here _ _) ?_
             refine H.ret1 rfl rfl (fun _ h => h) ⟨?_, rfl, rfl⟩
             rw [show x.mayK 4 = (decide (1 ≤ x.view) && (quo 0 x.q && decide (0 < x.q.length))) from rfl, hw, hquo, if_pos (by omega)]
             simp)
  · have hiq : i = x.q.length := by omega
    subst hiq
    rw [List.drop_length] at hw
    by_cases h1 : 1 ≤ x.view
    · skip
      repeat (first | ((first | apply H.move | apply H.assign | apply H.len_slice); (iterate 3 exact rfl)) | (apply H.fieldAddr; (iterate 3 exact rfl); exact inferInstance; exact rfl) | (apply H.load1; (iterate 3 exact rfl); apply Rd1.ofRow; (repeat (exact .here _ _ _)); (iterate 2 exact rfl)) | (first | apply H.seq | apply H.region | apply H.nil | apply H.then_normal) | ((apply H.cmp); (iterate 5 exact rfl)) | (apply H.pickT; (iterate 4 exact rfl)) | (first | apply H.ret | apply H.then_ret | apply H.then_exit | apply H.exit | apply H.in_ret | apply H.in_hit | apply H.loop_exit) | (apply H.gyes; (iterate 3 exact rfl); (assumption)) | (apply H.cond_no; exact rfl; (omega)))
      refine H.drop (.here _ _) ?_
      refine H.ret1 rfl rfl (fun _ h => h) ⟨?_, rfl, rfl⟩
      rw [show x.mayK 4 = (decide (1 ≤ x.view) && (quo 0 x.q && decide (0 < x.q.length))) from rfl, hw, decide_eq_true h1]
      simp [quo]
      omega
    · skip
      repeat (first | ((first | apply H.move | apply H.assign | apply H.len_slice); (iterate 3 exact rfl)) | (apply H.fieldAddr; (iterate 3 exact rfl); exact inferInstance; exact rfl) | (apply H.load1; (iterate 3 exact rfl); apply Rd1.ofRow; (repeat (exact .here _ _ _)); (iterate 2 exact rfl)) | (first | apply H.seq | apply H.region | apply H.nil | apply H.then_normal) | ((apply H.cmp); (iterate 5 exact rfl)) | (apply H.pass; (iterate 2 exact rfl)) | ((apply H.pickF); (iterate 4 exact rfl)) | (first | apply H.ret | apply H.then_ret | apply H.then_exit | apply H.exit | apply H.in_ret | apply H.in_hit | apply H.loop_exit) | (apply H.gno; (iterate 3 exact rfl); (assumption)) | (apply H.cond_no; exact rfl; (omega)))
      refine H.drop (.here _ _) ?_
      refine H.ret1 rfl rfl (fun _ h => h) ⟨?_, rfl, rfl⟩
      rw [show x.mayK 4 = (decide (1 ≤ x.view) && (quo 0 x.q && decide (0 < x.q.length))) from rfl, decide_eq_false h1]
      rfl
theorem rbody0_fn {x : Bod} {q : Option Addr} {qc : Nat} (hq : QAt f q x.q) (hl : x.q.length ≤ 1000000000) (h4 : ¬ (x.kind.toNat = 4 ∧ Bod.eqB x.own x = true ∧ x.view < 1073741824)) :
    Fn Try.prog 39 [.agg (x.vals q qc).toArray] f F (Ret (.bool x.may) f F) := by
  unfold Bod.may
  refine Fn.enter Try.func39 rfl Try.ntmps39 rfl (L := [(0, _)]) ⟨rfl, trivial⟩ fun base => ?_
  repeat ((first | apply H.seq | apply H.region))
  refine H.box (ls := x.vals q qc) rfl rfl rfl rfl fun xb => ?_
  repeat (first | ((apply H.assign); (iterate 3 exact rfl)) | (first | apply H.seq | apply H.nil | apply H.then_normal))
  refine H.drawB (by kernel_rfl) (by decide +kernel) (by first | exact blind_fn | exact blind_seq blind_fn | exact blind_seq (blind_seq blind_fn) | (repeat (first | exact blind_fn | refine blind_seq ?_ | refine blind_block ?_ | refine blind_loop ?_))) (S := [_]) rfl ?_
  refine HB.quiet [(0, false), (2, false)] 8 (by kernel_rfl) ?_
  refine HQ.loadN (ls := x.vals q qc) rfl rfl rfl (Rd.ofRow (by repeat (first | exact .here _ _ _ | apply At.there))) rfl rfl ?_
  refine HQ.loadN (ls := x.vals q qc) rfl rfl rfl (Rd.ofRow (by repeat (first | exact .here _ _ _ | apply At.there))) rfl rfl ?_
  refine HQ.more rfl ?_
  refine HB.ev1 (i := 1) (by kernel_rfl) rfl ?_
  refine H.callP rfl rfl rfl (own_fn f _ hq) fun i hqo => ?_
  repeat ((apply H.nil))
  refine H.on0 rfl ?_
  refine HB.ev1 (i := 3) (by kernel_rfl) rfl ?_
  have hlo : x.own.q.length ≤ 1000000000 := by
    have : x.own.q = x.q ∨ x.own.q = [] := by
      unfold Bod.own
      match x.kind.toNat with
      | 0 => exact .inr rfl
      | 1 => exact .inr rfl
      | 2 => exact .inr rfl
      | 3 => exact .inr rfl
      | 4 => exact .inl rfl
      | 5 => exact .inr rfl
      | 6 => exact .inr rfl
      | k + 7 => exact .inr rfl
    rcases this with h | h <;> rw [h]
    · exact hl
    · exact Nat.zero_le _
  refine H.callR rfl rfl rfl (rsame_fn f _ hqo hq hlo) ?_
  repeat ((apply H.nil))
  refine H.on0 rfl ?_
  refine HB.quiet [(4, false), (5, false), (6, false), (7, false), (8, false), (9, false)] 0 (by kernel_rfl) ?_
  generalize hs : Bod.eqB x.own x = sm
  cases sm with
  | false =>
    have hn : (!false) = true := rfl
    repeat (first | ((apply HQ.move); (iterate 3 exact rfl)) | (apply HQ.pass; (iterate 2 exact rfl)) | (apply HQ.pickT; (iterate 4 exact rfl)) | ((apply HQ.not); (iterate 4 exact rfl)))
    refine HQ.more rfl ?_
    refine HB.done (by kernel_rfl) ?_
    repeat (first | ((apply H.assign); (iterate 3 exact rfl)) | (first | apply H.seq | apply H.region | apply H.nil | apply H.then_normal) | (apply H.cond_true; exact rfl) | (first | apply H.ret | apply H.then_ret))
    refine H.drop (.here _ _) ?_
    exact H.ret1 rfl rfl (fun _ h => h) ⟨rfl, rfl, rfl⟩
  | true =>
    have hn : (!true) = false := rfl
    by_cases hv : x.view < 1073741824
    · rw [decide_eq_true hv, Bool.true_and, Bool.true_and]
      repeat (first | ((apply HQ.move); (iterate 3 exact rfl)) | (apply HQ.fieldAddr; (iterate 3 exact rfl); exact inferInstance; exact rfl) | (apply HQ.load1; (iterate 3 exact rfl); apply Rd1.ofRow; (repeat (exact .here _ _ _)); (iterate 2 exact rfl)) | ((apply HQ.cmp); (iterate 5 exact rfl)) | ((first | apply HQ.pickF | apply HQ.not); (iterate 4 exact rfl)))
      refine HQ.more rfl ?_
      refine HB.done (by kernel_rfl) ?_
      generalize hk : x.kind.toNat = kind
      match kind, hk with
      | 0, hk =>
        repeat (first | ((apply H.assign); (iterate 3 exact rfl)) | (apply H.fieldAddr; (iterate 3 exact rfl); exact inferInstance; exact rfl) | (apply H.load1; (iterate 3 exact rfl); apply Rd1.ofRow; (repeat (exact .here _ _ _)); (iterate 2 exact rfl)) | (first | apply H.seq | apply H.region | apply H.nil | apply H.then_normal) | ((apply H.cmp); (iterate 5 exact rfl)) | (first | apply H.skip | apply H.ret | apply H.block | apply H.in_normal) | (apply H.cond_no; exact rfl; (omega)))
        refine H.drop (.here _ _) ?_
        refine H.ret1 rfl rfl (fun _ h => h) ⟨?_, rfl, rfl⟩
        simp [Bod.mayK, *]
      | 1, hk =>
        repeat (first | ((apply H.assign); (iterate 3 exact rfl)) | (apply H.fieldAddr; (iterate 3 exact rfl); exact inferInstance; exact rfl) | (apply H.load1; (iterate 3 exact rfl); apply Rd1.ofRow; (repeat (exact .here _ _ _)); (iterate 2 exact rfl)) | (first | apply H.seq | apply H.region | apply H.nil | apply H.then_normal) | ((apply H.cmp); (iterate 5 exact rfl)) | (first | apply H.skip | apply H.ret | apply H.then_ret | apply H.block | apply H.in_ret) | (apply H.cond_yes; exact rfl; (omega)) | (apply H.cond_no; exact rfl; (omega)) | (refine H.loadN (ls := x.req.vals) rfl rfl rfl (row_req (by repeat (first | exact .here _ _ _ | apply At.there))) rfl rfl ?_) | (refine H.callR rfl rfl rfl (rasked_fn f _ x.req) ?_))
        refine H.drop (.here _ _) ?_
        refine H.ret1 rfl rfl (fun _ h => h) ⟨?_, rfl, rfl⟩
        simp [Bod.mayK, *]
      | 2, hk =>
        by_cases h1 : 1 ≤ x.k
        · skip
          repeat (first | ((first | apply H.move | apply H.assign); (iterate 3 exact rfl)) | (apply H.fieldAddr; (iterate 3 exact rfl); exact inferInstance; exact rfl) | (apply H.load1; (iterate 3 exact rfl); apply Rd1.ofRow; (repeat (exact .here _ _ _)); (iterate 2 exact rfl)) | (first | apply H.seq | apply H.region | apply H.nil | apply H.then_normal) | ((apply H.cmp); (iterate 5 exact rfl)) | (apply H.pickT; (iterate 4 exact rfl)) | (first | apply H.skip | apply H.ret | apply H.then_ret | apply H.block | apply H.in_ret) | (apply H.gyes; (iterate 3 exact rfl); (assumption)) | (apply H.cond_yes; exact rfl; (omega)) | (apply H.cond_no; exact rfl; (omega)))
          refine H.drop (.here _ _) ?_
          refine H.ret1 rfl rfl (fun _ h => h) ⟨?_, rfl, rfl⟩
          simp [Bod.mayK, *]
        · skip
          repeat (first | ((first | apply H.move | apply H.assign); (iterate 3 exact rfl)) | (apply H.fieldAddr; (iterate 3 exact rfl); exact inferInstance; exact rfl) | (apply H.load1; (iterate 3 exact rfl); apply Rd1.ofRow; (repeat (exact .here _ _ _)); (iterate 2 exact rfl)) | (first | apply H.seq | apply H.region | apply H.nil | apply H.then_normal) | ((apply H.cmp); (iterate 5 exact rfl)) | (apply H.pass; (iterate 2 exact rfl)) | ((apply H.pickF); (iterate 4 exact rfl)) | (first | apply H.skip | apply H.ret | apply H.then_ret | apply H.block | apply H.in_ret) | (apply H.gno; (iterate 3 exact rfl); (assumption)) | (apply H.cond_yes; exact rfl; (omega)) | (apply H.cond_no; exact rfl; (omega)))
          refine H.drop (.here _ _) ?_
          refine H.ret1 rfl rfl (fun _ h => h) ⟨?_, rfl, rfl⟩
          simp [Bod.mayK, *]
      | 3, hk =>
        repeat (first | ((apply H.assign); (iterate 3 exact rfl)) | (apply H.fieldAddr; (iterate 3 exact rfl); exact inferInstance; exact rfl) | (apply H.load1; (iterate 3 exact rfl); apply Rd1.ofRow; (repeat (exact .here _ _ _)); (iterate 2 exact rfl)) | (first | apply H.seq | apply H.region | apply H.nil | apply H.then_normal) | ((apply H.cmp); (iterate 5 exact rfl)) | (first | apply H.skip | apply H.ret | apply H.then_ret | apply H.block | apply H.in_ret) | (apply H.cond_yes; exact rfl; (omega)) | (apply H.cond_no; exact rfl; (omega)))
        refine H.drop (.here _ _) ?_
        refine H.ret1 rfl rfl (fun _ h => h) ⟨?_, rfl, rfl⟩
        simp [Bod.mayK, *]
      | 5, hk =>
        repeat (first | ((apply H.assign); (iterate 3 exact rfl)) | (apply H.fieldAddr; (iterate 3 exact rfl); exact inferInstance; exact rfl) | (apply H.load1; (iterate 3 exact rfl); apply Rd1.ofRow; (repeat (exact .here _ _ _)); (iterate 2 exact rfl)) | (first | apply H.seq | apply H.region | apply H.nil | apply H.then_normal) | ((apply H.cmp); (iterate 5 exact rfl)) | (first | apply H.skip | apply H.ret | apply H.then_ret | apply H.block | apply H.in_ret) | (apply H.cond_yes; exact rfl; (omega)) | (apply H.cond_no; exact rfl; (omega)))
        refine H.drop (.here _ _) ?_
        refine H.ret1 rfl rfl (fun _ h => h) ⟨?_, rfl, rfl⟩
        simp [Bod.mayK, *]
      | 6, hk =>
        by_cases h1 : 1 ≤ x.k
        · skip
          repeat (first | ((first | apply H.move | apply H.assign); (iterate 3 exact rfl)) | (apply H.fieldAddr; (iterate 3 exact rfl); exact inferInstance; exact rfl) | (apply H.load1; (iterate 3 exact rfl); apply Rd1.ofRow; (repeat (exact .here _ _ _)); (iterate 2 exact rfl)) | (first | apply H.seq | apply H.region | apply H.nil | apply H.then_normal) | ((apply H.cmp); (iterate 5 exact rfl)) | (apply H.pickT; (iterate 4 exact rfl)) | (first | apply H.skip | apply H.ret | apply H.then_ret | apply H.block | apply H.in_ret) | (apply H.gyes; (iterate 3 exact rfl); (assumption)) | (apply H.cond_yes; exact rfl; (omega)) | (apply H.cond_no; exact rfl; (omega)))
          refine H.drop (.here _ _) ?_
          refine H.ret1 rfl rfl (fun _ h => h) ⟨?_, rfl, rfl⟩
          simp [Bod.mayK, *]
        · skip
          repeat (first | ((first | apply H.move | apply H.assign); (iterate 3 exact rfl)) | (apply H.fieldAddr; (iterate 3 exact rfl); exact inferInstance; exact rfl) | (apply H.load1; (iterate 3 exact rfl); apply Rd1.ofRow; (repeat (exact .here _ _ _)); (iterate 2 exact rfl)) | (first | apply H.seq | apply H.region | apply H.nil | apply H.then_normal) | ((apply H.cmp); (iterate 5 exact rfl)) | (apply H.pass; (iterate 2 exact rfl)) | ((apply H.pickF); (iterate 4 exact rfl)) | (first | apply H.skip | apply H.ret | apply H.then_ret | apply H.block | apply H.in_ret) | (apply H.gno; (iterate 3 exact rfl); (assumption)) | (apply H.cond_yes; exact rfl; (omega)) | (apply H.cond_no; exact rfl; (omega)))
          refine H.drop (.here _ _) ?_
          refine H.ret1 rfl rfl (fun _ h => h) ⟨?_, rfl, rfl⟩
          simp [Bod.mayK, *]
      | k + 7, hk =>
        repeat (first | ((apply H.assign); (iterate 3 exact rfl)) | (apply H.fieldAddr; (iterate 3 exact rfl); exact inferInstance; exact rfl) | (apply H.load1; (iterate 3 exact rfl); apply Rd1.ofRow; (repeat (exact .here _ _ _)); (iterate 2 exact rfl)) | (first | apply H.seq | apply H.region | apply H.nil | apply H.then_normal) | ((apply H.cmp); (iterate 5 exact rfl)) | (first | apply H.skip | apply H.ret | apply H.block | apply H.in_normal) | (apply H.cond_no; exact rfl; (omega)))
        refine H.drop (.here _ _) ?_
        refine H.ret1 rfl rfl (fun _ h => h) ⟨?_, rfl, rfl⟩
        simp [Bod.mayK, *]
      | 4, hk => exact absurd ⟨hk, hs, hv⟩ h4
    · rw [decide_eq_false hv]
      repeat (first | ((apply HQ.move); (iterate 3 exact rfl)) | (apply HQ.fieldAddr; (iterate 3 exact rfl); exact inferInstance; exact rfl) | (apply HQ.load1; (iterate 3 exact rfl); apply Rd1.ofRow; (repeat (exact .here _ _ _)); (iterate 2 exact rfl)) | ((apply HQ.cmp); (iterate 5 exact rfl)) | ((first | apply HQ.pickF | apply HQ.not); (iterate 4 exact rfl)))
      refine HQ.more rfl ?_
      refine HB.done (by kernel_rfl) ?_
      repeat (first | ((apply H.assign); (iterate 3 exact rfl)) | (first | apply H.seq | apply H.region | apply H.nil | apply H.then_normal) | (first | apply H.ret | apply H.then_ret) | (apply H.cond_yes; exact rfl; (omega)))
      refine H.drop (.here _ _) ?_
      exact H.ret1 rfl rfl (fun _ h => h) ⟨rfl, rfl, rfl⟩
theorem rbody_fn {x : Bod} {q : Option Addr} {qc : Nat} (hq : QAt f q x.q) (hl : x.q.length ≤ 1000000000) :
    Fn Try.prog 39 [.agg (x.vals q qc).toArray] f F (Ret (.bool x.may) f F) := by
  by_cases h4 : x.kind.toNat = 4 ∧ Bod.eqB x.own x = true ∧ x.view < 1073741824
  · exact rbody4_fn f F hq hl h4.1 h4.2.1 h4.2.2
  · exact rbody0_fn f F hq hl h4
end
end Go.Proofs.Ytcaofnfemogleaa

/- Layer 8, messages: may a message be? (the document) -/
namespace Go.Proofs.Ytcaofnfemogleaa
set_option linter.unusedSectionVars false
set_option linter.unusedSimpArgs false
set_option linter.unusedVariables false
open Go
section
variable (f : Frag) (F : List HP)
theorem rmay_fn {m : Msg} {q : Option Addr} {qc : Nat} (hq : QAt f q m.body.q) (hl : m.body.q.length ≤ 1000000000) :
    Fn Try.prog 32 [.agg (m.vals q qc).toArray] f F (Ret (.bool (decide m.outer && m.body.may)) f F) := by
  by_cases h1 : 1 ≤ m.origin
  · by_cases h2 : m.origin ≤ 11
    · by_cases h3 : 1 ≤ m.number
      · by_cases h4 : m.number ≤ 65536
        · by_cases h5 : m.deps (m.origin.toNat - 1) = m.number - 1
          · skip
            refine Fn.enter Try.func32 rfl Try.ntmps32 rfl (L := [(0, _)]) ⟨rfl, trivial⟩ fun base => ?_
            repeat ((first | apply H.seq | apply H.region))
            refine H.box (ls := m.vals q qc) rfl rfl rfl rfl fun mb => ?_
            repeat (first | ((apply H.assign); (iterate 3 exact rfl)) | (first | apply H.seq | apply H.nil | apply H.then_normal))
            refine H.drawQ (by kernel_rfl) (by decide +kernel) (by first | exact blind_fn | exact blind_seq blind_fn | exact blind_seq (blind_seq blind_fn) | (repeat (first | exact blind_fn | refine blind_seq ?_ | refine blind_block ?_ | refine blind_loop ?_))) ?_
            repeat (first | ((apply HQ.move); (iterate 3 exact rfl)) | (apply HQ.fieldAddr; (iterate 3 exact rfl); exact inferInstance; exact rfl) | (apply HQ.load1; (iterate 3 exact rfl); apply Rd1.ofRow; (repeat (exact .here _ _ _)); (iterate 2 exact rfl)) | ((apply HQ.done0); exact rfl) | ((apply HQ.cmp); (iterate 5 exact rfl)) | ((apply HQ.ar; (iterate 4 exact rfl)); (first | (with_reducible apply wr_i64; omega) | (with_reducible apply wr_u64; omega)); exact rfl) | ((apply HQ.pickF); (iterate 4 exact rfl)) | (apply HQ.gno; (iterate 3 exact rfl); (omega)) | (refine HQ.index_array (i := (m.origin.toNat - 1)) rfl rfl rfl (by omega) (by omega) rfl ?_) | (refine HQ.load1 rfl rfl rfl (.of (msg_deps (by repeat (first | exact .here _ _ _ | apply At.there))) (by rw [Nat.mul_one]; exact v11_get m.deps (by omega))) rfl ?_))
            repeat (first | ((apply H.assign); (iterate 3 exact rfl)) | (first | apply H.seq | apply H.region | apply H.nil | apply H.then_normal) | (first | apply H.skip | apply H.block) | (apply H.cond_no; exact rfl; (omega)))
            refine H.loop (ι := Nat) (fun i => [(3, .int .i64 (i : Int)), (1, .pointer (some ⟨mb, 0, none⟩))]) (fun _ => f) (fun _ => row mb 61 (m.vals q qc) :: F) (fun i => i ≤ 11 ∧ ∀ j, j < i → m.deps j ≤ 65536) (fun i => 11 - i) 0 ⟨Nat.zero_le _, fun j hj => absurd hj (Nat.not_lt_zero j)⟩ ⟨rfl, rfl, trivial⟩ rfl rfl fun i hi => ?_
            obtain ⟨hi, hle⟩ : i ≤ 11 ∧ ∀ j, j < i → m.deps j ≤ 65536 := hi
            by_cases hlt : i < 11
            · repeat (first | ((first | apply H.move | apply H.assign | apply H.nilCheck | apply H.len_slice | apply H.len_string | apply H.cap_slice); (iterate 3 exact rfl)) | (apply H.fieldAddr; (iterate 3 exact rfl); exact inferInstance; exact rfl) | (apply H.load1; (iterate 3 exact rfl); apply Rd1.ofRow; (repeat (first | exact .here _ _ _ | apply At.there)); (iterate 2 exact rfl)) | (first | apply H.seq | apply H.region | apply H.nil | apply H.then_normal) | ((first | apply H.cmp | apply H.build); (iterate 5 exact rfl)) | ((first | (apply H.ar; (iterate 4 exact rfl)) | (apply H.conv_int; (iterate 2 exact rfl))); (first | (with_reducible apply wr_i64_s1; omega) | (with_reducible apply wr_i64_n1; omega) | (with_reducible apply wr_i64_nn; omega) | (with_reducible apply wr_i64; omega) | (with_reducible apply wr_u64; omega) | (with_reducible apply wr_u8; omega) | (with_reducible apply wr_u16; omega) | rfl); exact rfl) | (apply H.pass; (iterate 2 exact rfl)) | (apply H.pass0; exact rfl) | (apply H.pickT; (iterate 4 exact rfl)) | ((first | apply H.pickF | apply H.extract | apply H.not | apply H.makeFunc); (iterate 4 exact rfl)) | ((first | apply H.ptrNil | apply H.sliceNil); (iterate 5 exact rfl)) | (apply H.store1; (iterate 4 exact rfl); (repeat (first | exact .here _ _ _ | apply At.there)); (repeat (first | exact .here _ _ _ | apply SetV.there))) | (apply H.cond_true; exact rfl) | (apply H.cond_false; exact rfl) | (first | apply H.skip | apply H.ret | apply H.then_ret | apply H.then_exit | apply H.exit | apply H.block | apply H.in_normal | apply H.in_ret | apply H.in_hit | apply H.loop_ret | apply H.loop_exit) | (apply H.in_miss; exact rfl) | (apply H.gyes; (iterate 3 exact rfl); (first | assumption | omega)) | (apply H.gno; (iterate 3 exact rfl); (first | assumption | omega)) | (apply H.cond_yes; exact rfl; (first | assumption | omega)) | (apply H.cond_no; exact rfl; (first | assumption | omega)) | ((first | apply H.gtrue); (iterate 3 exact rfl); assumption) | (apply H.gfalse; (iterate 3 exact rfl); assumption) | (apply H.cond_t; exact rfl; assumption) | (apply H.cond_f; exact rfl; assumption))
              refine H.index_array (i := i) rfl rfl rfl rfl hlt rfl ?_
              refine H.load1 rfl rfl rfl (.of (msg_deps (by repeat (first | exact .here _ _ _ | apply At.there))) (by rw [Nat.mul_one]; exact v11_get m.deps hlt)) rfl ?_
              by_cases h6 : m.deps i ≤ 65536
              · repeat (first | ((first | apply H.move | apply H.assign | apply H.nilCheck | apply H.len_slice | apply H.len_string | apply H.cap_slice); (iterate 3 exact rfl)) | (apply H.fieldAddr; (iterate 3 exact rfl); exact inferInstance; exact rfl) | (apply H.load1; (iterate 3 exact rfl); apply Rd1.ofRow; (repeat (first | exact .here _ _ _ | apply At.there)); (iterate 2 exact rfl)) | (first | apply H.seq | apply H.region | apply H.nil | apply H.then_normal) | ((first | apply H.cmp | apply H.build); (iterate 5 exact rfl)) | ((first | (apply H.ar; (iterate 4 exact rfl)) | (apply H.conv_int; (iterate 2 exact rfl))); (first | (with_reducible apply wr_i64_s1; omega) | (with_reducible apply wr_i64_n1; omega) | (with_reducible apply wr_i64_nn; omega) | (with_reducible apply wr_i64; omega) | (with_reducible apply wr_u64; omega) | (with_reducible apply wr_u8; omega) | (with_reducible apply wr_u16; omega) | rfl); exact rfl) | (apply H.pass; (iterate 2 exact rfl)) | (apply H.pass0; exact rfl) | (apply H.pickT; (iterate 4 exact rfl)) | ((first | apply H.pickF | apply H.extract | apply H.not | apply H.makeFunc); (iterate 4 exact rfl)) | ((first | apply H.ptrNil | apply H.sliceNil); (iterate 5 exact rfl)) | (apply H.store1; (iterate 4 exact rfl); (repeat (first | exact .here _ _ _ | apply At.there)); (repeat (first | exact .here _ _ _ | apply SetV.there))) | (apply H.cond_true; exact rfl) | (apply H.cond_false; exact rfl) | (first | apply H.skip | apply H.ret | apply H.then_ret | apply H.then_exit | apply H.exit | apply H.block | apply H.in_normal | apply H.in_ret | apply H.in_hit | apply H.loop_ret | apply H.loop_exit) | (apply H.in_miss; exact rfl) | (apply H.gyes; (iterate 3 exact rfl); (first | assumption | omega)) | (apply H.gno; (iterate 3 exact rfl); (first | assumption | omega)) | (apply H.cond_yes; exact rfl; (first | assumption | omega)) | (apply H.cond_no; exact rfl; (first | assumption | omega)) | ((first | apply H.gtrue); (iterate 3 exact rfl); assumption) | (apply H.gfalse; (iterate 3 exact rfl); assumption) | (apply H.cond_t; exact rfl; assumption) | (apply H.cond_f; exact rfl; assumption))
                exact H.again (i + 1) ⟨by show i + 1 ≤ 11; omega, fun j hj => by
                  by_cases e : j = i
                  · rw [e]; exact h6
                  · exact hle j (by have : j < i + 1 := hj; omega)⟩ (by show 11 - (i + 1) < 11 - i; omega) ⟨rfl, rfl, trivial⟩ rfl rfl
              · repeat (first | ((first | apply H.move | apply H.assign | apply H.nilCheck | apply H.len_slice | apply H.len_string | apply H.cap_slice); (iterate 3 exact rfl)) | (apply H.fieldAddr; (iterate 3 exact rfl); exact inferInstance; exact rfl) | (apply H.load1; (iterate 3 exact rfl); apply Rd1.ofRow; (repeat (first | exact .here _ _ _ | apply At.there)); (iterate 2 exact rfl)) | (first | apply H.seq | apply H.region | apply H.nil | apply H.then_normal) | ((first | apply H.cmp | apply H.build); (iterate 5 exact rfl)) | ((first | (apply H.ar; (iterate 4 exact rfl)) | (apply H.conv_int; (iterate 2 exact rfl))); (first | (with_reducible apply wr_i64_s1; omega) | (with_reducible apply wr_i64_n1; omega) | (with_reducible apply wr_i64_nn; omega) | (with_reducible apply wr_i64; omega) | (with_reducible apply wr_u64; omega) | (with_reducible apply wr_u8; omega) | (with_reducible apply wr_u16; omega) | rfl); exact rfl) | (apply H.pass; (iterate 2 exact rfl)) | (apply H.pass0; exact rfl) | (apply H.pickT; (iterate 4 exact rfl)) | ((first | apply H.pickF | apply H.extract | apply H.not | apply H.makeFunc); (iterate 4 exact rfl)) | ((first | apply H.ptrNil | apply H.sliceNil); (iterate 5 exact rfl)) | (apply H.store1; (iterate 4 exact rfl); (repeat (first | exact .here _ _ _ | apply At.there)); (repeat (first | exact .here _ _ _ | apply SetV.there))) | (apply H.cond_true; exact rfl) | (apply H.cond_false; exact rfl) | (first | apply H.skip | apply H.ret | apply H.then_ret | apply H.then_exit | apply H.exit | apply H.block | apply H.in_normal | apply H.in_ret | apply H.in_hit | apply H.loop_ret | apply H.loop_exit) | (apply H.in_miss; exact rfl) | (apply H.gyes; (iterate 3 exact rfl); (first | assumption | omega)) | (apply H.gno; (iterate 3 exact rfl); (first | assumption | omega)) | (apply H.cond_yes; exact rfl; (first | assumption | omega)) | (apply H.cond_no; exact rfl; (first | assumption | omega)) | ((first | apply H.gtrue); (iterate 3 exact rfl); assumption) | (apply H.gfalse; (iterate 3 exact rfl); assumption) | (apply H.cond_t; exact rfl; assumption) | (apply H.cond_f; exact rfl; assumption))
                refine H.drop (.here _ _) ?_
                refine H.ret1 rfl rfl (fun _ h => h) ⟨?_, rfl, rfl⟩
                rw [decide_eq_false (fun h => h6 ((maxTo_le m.deps 65536 10).1 h.2.2.2.2.2 i (by omega)))]
                rfl
            · have hi11 : i = 11 := by omega
              subst hi11
              have h7 : m.outer := ⟨h1, h2, h3, h4, h5, (maxTo_le m.deps 65536 10).2 fun j hj => hle j (by omega)⟩
              rw [decide_eq_true h7, Bool.true_and]
              repeat (first | ((apply H.move); (iterate 3 exact rfl)) | (apply H.fieldAddr; (iterate 3 exact rfl); exact inferInstance; exact rfl) | (first | apply H.seq | apply H.region | apply H.nil | apply H.then_normal) | ((apply H.cmp); (iterate 5 exact rfl)) | (apply H.cond_false; exact rfl) | (first | apply H.then_exit | apply H.exit | apply H.in_hit | apply H.loop_exit))
              refine H.loadN (ls := m.body.vals q qc) rfl rfl rfl (msg_body (by repeat (first | exact .here _ _ _ | apply At.there))) rfl rfl ?_
              refine H.callR rfl rfl rfl (rbody_fn f _ hq hl) ?_
              repeat (first | ((apply H.assign); (iterate 3 exact rfl)) | (first | apply H.nil | apply H.then_normal) | (apply H.ret))
              refine H.drop (.here _ _) ?_
              exact H.ret1 rfl rfl (fun _ h => h) ⟨rfl, rfl, rfl⟩
          · skip
            refine Fn.enter Try.func32 rfl Try.ntmps32 rfl (L := [(0, _)]) ⟨rfl, trivial⟩ fun base => ?_
            repeat ((first | apply H.seq | apply H.region))
            refine H.box (ls := m.vals q qc) rfl rfl rfl rfl fun mb => ?_
            repeat (first | ((apply H.assign); (iterate 3 exact rfl)) | (first | apply H.seq | apply H.nil | apply H.then_normal))
            refine H.drawQ (by kernel_rfl) (by decide +kernel) (by first | exact blind_fn | exact blind_seq blind_fn | exact blind_seq (blind_seq blind_fn) | (repeat (first | exact blind_fn | refine blind_seq ?_ | refine blind_block ?_ | refine blind_loop ?_))) ?_
            repeat (first | ((apply HQ.move); (iterate 3 exact rfl)) | (apply HQ.fieldAddr; (iterate 3 exact rfl); exact inferInstance; exact rfl) | (apply HQ.load1; (iterate 3 exact rfl); apply Rd1.ofRow; (repeat (exact .here _ _ _)); (iterate 2 exact rfl)) | ((apply HQ.done0); exact rfl) | ((apply HQ.cmp); (iterate 5 exact rfl)) | ((apply HQ.ar; (iterate 4 exact rfl)); (first | (with_reducible apply wr_i64; omega) | (with_reducible apply wr_u64; omega)); exact rfl) | ((apply HQ.pickF); (iterate 4 exact rfl)) | (apply HQ.gno; (iterate 3 exact rfl); (omega)) | (refine HQ.index_array (i := (m.origin.toNat - 1)) rfl rfl rfl (by omega) (by omega) rfl ?_) | (refine HQ.load1 rfl rfl rfl (.of (msg_deps (by repeat (first | exact .here _ _ _ | apply At.there))) (by rw [Nat.mul_one]; exact v11_get m.deps (by omega))) rfl ?_))
            repeat (first | ((apply H.assign); (iterate 3 exact rfl)) | (first | apply H.seq | apply H.region | apply H.nil | apply H.then_normal) | (first | apply H.ret | apply H.then_ret) | (apply H.cond_yes; exact rfl; (assumption)))
            refine H.drop (.here _ _) ?_
            refine H.ret1 rfl rfl (fun _ h => h) ⟨?_, rfl, rfl⟩
            simp [Msg.outer, *]
        · skip
          refine Fn.enter Try.func32 rfl Try.ntmps32 rfl (L := [(0, _)]) ⟨rfl, trivial⟩ fun base => ?_
          repeat ((first | apply H.seq | apply H.region))
          refine H.box (ls := m.vals q qc) rfl rfl rfl rfl fun mb => ?_
          repeat (first | ((apply H.assign); (iterate 3 exact rfl)) | (first | apply H.seq | apply H.nil | apply H.then_normal))
          refine H.drawQ (by kernel_rfl) (by decide +kernel) (by first | exact blind_fn | exact blind_seq blind_fn | exact blind_seq (blind_seq blind_fn) | (repeat (first | exact blind_fn | refine blind_seq ?_ | refine blind_block ?_ | refine blind_loop ?_))) ?_
          repeat (first | ((apply HQ.move); (iterate 3 exact rfl)) | (apply HQ.fieldAddr; (iterate 3 exact rfl); exact inferInstance; exact rfl) | (apply HQ.load1; (iterate 3 exact rfl); apply Rd1.ofRow; (repeat (exact .here _ _ _)); (iterate 2 exact rfl)) | ((apply HQ.done0); exact rfl) | ((apply HQ.cmp); (iterate 5 exact rfl)) | (apply HQ.pass; (iterate 2 exact rfl)) | (apply HQ.pickT; (iterate 4 exact rfl)) | ((apply HQ.pickF); (iterate 4 exact rfl)) | (apply HQ.gyes; (iterate 3 exact rfl); (omega)) | (apply HQ.gno; (iterate 3 exact rfl); (omega)))
          repeat (first | ((apply H.assign); (iterate 3 exact rfl)) | (first | apply H.seq | apply H.region | apply H.nil | apply H.then_normal) | (apply H.cond_true; exact rfl) | (first | apply H.ret | apply H.then_ret))
          refine H.drop (.here _ _) ?_
          refine H.ret1 rfl rfl (fun _ h => h) ⟨?_, rfl, rfl⟩
          simp [Msg.outer, *]
      · skip
        refine Fn.enter Try.func32 rfl Try.ntmps32 rfl (L := [(0, _)]) ⟨rfl, trivial⟩ fun base => ?_
        repeat ((first | apply H.seq | apply H.region))
        refine H.box (ls := m.vals q qc) rfl rfl rfl rfl fun mb => ?_
        repeat (first | ((apply H.assign); (iterate 3 exact rfl)) | (first | apply H.seq | apply H.nil | apply H.then_normal))
        refine H.drawQ (by kernel_rfl) (by decide +kernel) (by first | exact blind_fn | exact blind_seq blind_fn | exact blind_seq (blind_seq blind_fn) | (repeat (first | exact blind_fn | refine blind_seq ?_ | refine blind_block ?_ | refine blind_loop ?_))) ?_
        repeat (first | ((apply HQ.move); (iterate 3 exact rfl)) | (apply HQ.fieldAddr; (iterate 3 exact rfl); exact inferInstance; exact rfl) | (apply HQ.load1; (iterate 3 exact rfl); apply Rd1.ofRow; (repeat (exact .here _ _ _)); (iterate 2 exact rfl)) | ((apply HQ.done0); exact rfl) | ((apply HQ.cmp); (iterate 5 exact rfl)) | (apply HQ.pass; (iterate 2 exact rfl)) | (apply HQ.pickT; (iterate 4 exact rfl)) | ((apply HQ.pickF); (iterate 4 exact rfl)) | (apply HQ.gyes; (iterate 3 exact rfl); (omega)) | (apply HQ.gno; (iterate 3 exact rfl); (omega)))
        repeat (first | ((apply H.assign); (iterate 3 exact rfl)) | (first | apply H.seq | apply H.region | apply H.nil | apply H.then_normal) | (apply H.cond_true; exact rfl) | (first | apply H.ret | apply H.then_ret))
        refine H.drop (.here _ _) ?_
        refine H.ret1 rfl rfl (fun _ h => h) ⟨?_, rfl, rfl⟩
        simp [Msg.outer, *]
    · skip
      refine Fn.enter Try.func32 rfl Try.ntmps32 rfl (L := [(0, _)]) ⟨rfl, trivial⟩ fun base => ?_
      repeat ((first | apply H.seq | apply H.region))
      refine H.box (ls := m.vals q qc) rfl rfl rfl rfl fun mb => ?_
      repeat (first | ((apply H.assign); (iterate 3 exact rfl)) | (first | apply H.seq | apply H.nil | apply H.then_normal))
      refine H.drawQ (by kernel_rfl) (by decide +kernel) (by first | exact blind_fn | exact blind_seq blind_fn | exact blind_seq (blind_seq blind_fn) | (repeat (first | exact blind_fn | refine blind_seq ?_ | refine blind_block ?_ | refine blind_loop ?_))) ?_
      repeat (first | ((apply HQ.move); (iterate 3 exact rfl)) | (apply HQ.fieldAddr; (iterate 3 exact rfl); exact inferInstance; exact rfl) | (apply HQ.load1; (iterate 3 exact rfl); apply Rd1.ofRow; (repeat (exact .here _ _ _)); (iterate 2 exact rfl)) | ((apply HQ.done0); exact rfl) | ((apply HQ.cmp); (iterate 5 exact rfl)) | (apply HQ.pass; (iterate 2 exact rfl)) | (apply HQ.pickT; (iterate 4 exact rfl)) | ((apply HQ.pickF); (iterate 4 exact rfl)) | (apply HQ.gyes; (iterate 3 exact rfl); (omega)) | (apply HQ.gno; (iterate 3 exact rfl); (omega)))
      repeat (first | ((apply H.assign); (iterate 3 exact rfl)) | (first | apply H.seq | apply H.region | apply H.nil | apply H.then_normal) | (apply H.cond_true; exact rfl) | (first | apply H.ret | apply H.then_ret))
      refine H.drop (.here _ _) ?_
      refine H.ret1 rfl rfl (fun _ h => h) ⟨?_, rfl, rfl⟩
      simp [Msg.outer, *]
  · skip
    refine Fn.enter Try.func32 rfl Try.ntmps32 rfl (L := [(0, _)]) ⟨rfl, trivial⟩ fun base => ?_
    repeat ((first | apply H.seq | apply H.region))
    refine H.box (ls := m.vals q qc) rfl rfl rfl rfl fun mb => ?_
    repeat (first | ((apply H.assign); (iterate 3 exact rfl)) | (first | apply H.seq | apply H.nil | apply H.then_normal))
    refine H.drawQ (by kernel_rfl) (by decide +kernel) (by first | exact blind_fn | exact blind_seq blind_fn | exact blind_seq (blind_seq blind_fn) | (repeat (first | exact blind_fn | refine blind_seq ?_ | refine blind_block ?_ | refine blind_loop ?_))) ?_
    repeat (first | ((apply HQ.move); (iterate 3 exact rfl)) | (apply HQ.fieldAddr; (iterate 3 exact rfl); exact inferInstance; exact rfl) | (apply HQ.load1; (iterate 3 exact rfl); apply Rd1.ofRow; (repeat (exact .here _ _ _)); (iterate 2 exact rfl)) | ((apply HQ.done0); exact rfl) | ((apply HQ.cmp); (iterate 5 exact rfl)) | (apply HQ.pass; (iterate 2 exact rfl)) | (apply HQ.pickT; (iterate 4 exact rfl)) | (apply HQ.gyes; (iterate 3 exact rfl); (omega)))
    repeat (first | ((apply H.assign); (iterate 3 exact rfl)) | (first | apply H.seq | apply H.region | apply H.nil | apply H.then_normal) | (apply H.cond_true; exact rfl) | (first | apply H.ret | apply H.then_ret))
    refine H.drop (.here _ _) ?_
    refine H.ret1 rfl rfl (fun _ h => h) ⟨?_, rfl, rfl⟩
    simp [Msg.outer, *]
end
end Go.Proofs.Ytcaofnfemogleaa

/- Layer 8, messages: a message's bytes (the document). -/
namespace Go.Proofs.Ytcaofnfemogleaa
set_option linter.unusedSectionVars false
set_option linter.unusedSimpArgs false
set_option linter.unusedVariables false
open Go
/-- The bytes of the first ones. -/
def depsB (d : Nat → Int) : Nat → List UInt8
  | 0 => []
  | i + 1 => depsB d i ++ be 8 (d i)
theorem depsB_len (d : Nat → Int) : ∀ n, (depsB d n).length = 8 * n
  | 0 => rfl
  | n + 1 => by simp only [depsB, List.length_append, be_len, depsB_len d n]; omega
/-- What is tagged of a message. -/
def Msg.tagged (m : Msg) : List UInt8 := [b8 m.origin] ++ depsB m.deps 11 ++ [m.body.kind] ++ m.body.put
def Msg.may (m : Msg) : Bool := decide m.outer && m.body.may
def Msg.bytes (m : Msg) : List UInt8 := if m.may = true then m.tagged else []
theorem H.asSlc {P : Program} {base : World} {n : Nat} {L : Env} {f : Frag} {A : List HP} {K : Kont} {b k sz : Nat} {T : TypeId} {ls : List Value} (hl : ls.length = k * sz) (hk : k ≤ 9223372036854775807)
    (h : H P base n L f (slc (some ⟨b, 0, none⟩) k k T sz ls :: A) K) : H P base n L f (row b T ls :: A) K :=
  H.imp (A' := slc (some ⟨b, 0, none⟩) k k T sz ls :: A) (fun x ⟨m1, m2, d, e, a, r⟩ => ⟨m1, m2, d, e, row_slc hl hk a, r⟩) h
theorem b8_small {z : Int} (h : 0 ≤ z ∧ z < 256) : ((b8 z).toNat : Int) = z := by
  unfold b8
  rw [UInt8.toNat_ofNat']
  omega
theorem quo_len : ∀ (q : List (Int × Int)) (w : Int), w ≤ 11 → quo w q = true → (q.length : Int) ≤ 11 - w
  | [], w, hw, _ => by simp; omega
  | p :: r, w, hw, h => by
    unfold quo at h
    split at h
    · cases h
    · have ih := quo_len r p.1 (by omega) h
      rw [List.length_cons]; omega
theorem Bod.may_spec {x : Bod} (h : x.may = true) : Bod.eqB x.own x = true ∧ x.view < 1073741824 ∧ x.mayK x.kind.toNat = true := by
  unfold Bod.may at h
  simp only [Bool.and_eq_true, decide_eq_true_eq] at h
  exact ⟨h.1.1, h.1.2, h.2⟩
theorem Bod.eqB_q {a b : Bod} (h : Bod.eqB a b = true) : a.q = b.q := by
  unfold Bod.eqB at h
  simp only [Bool.and_eq_true, decide_eq_true_eq] at h
  exact h.1.2
theorem Bod.may_q {x : Bod} (h : x.may = true) : x.q.length ≤ 11 := by
  obtain ⟨h1, h2, h3⟩ := Bod.may_spec h
  have h4 := Bod.eqB_q h1
  unfold Bod.own at h4
  generalize hk : x.kind.toNat = k at h3 h4
  match k, h3, h4 with
  | 0, h3, _ => exact absurd h3 (by simp [Bod.mayK])
  | 1, _, h4 => have h4 : [] = x.q := h4; rw [← h4]; exact Nat.zero_le _
  | 2, _, h4 => have h4 : [] = x.q := h4; rw [← h4]; exact Nat.zero_le _
  | 3, _, h4 => have h4 : [] = x.q := h4; rw [← h4]; exact Nat.zero_le _
  | 5, _, h4 => have h4 : [] = x.q := h4; rw [← h4]; exact Nat.zero_le _
  | 6, _, h4 => have h4 : [] = x.q := h4; rw [← h4]; exact Nat.zero_le _
  | k + 7, h3, _ => exact absurd h3 (by simp [Bod.mayK])
  | 4, h3, _ =>
    simp only [Bod.mayK, Bool.and_eq_true, decide_eq_true_eq] at h3
    have := quo_len x.q 0 (by omega) h3.2.1
    omega
theorem Msg.may_body {m : Msg} (h : m.may = true) : m.body.may = true := by
  unfold Msg.may at h
  simp only [Bool.and_eq_true] at h
  exact h.2
section
variable (f : Frag) (F : List HP)
theorem rbytes_fn {m : Msg} {q : Option Addr} {qc : Nat} (hq : QAt f q m.body.q) (hl : m.body.q.length ≤ 1000000000) :
    Fn Try.prog 41 [.agg (m.vals q qc).toArray] f F (BytesR m.bytes f F) := by
  have hmay := fun G => rmay_fn (m := m) (qc := qc) f G hq hl
  unfold Msg.bytes
  have e0 : m.may = (decide m.outer && m.body.may) := rfl
  rw [← e0] at hmay
  by_cases hm : m.may = true
  · rw [if_pos hm]
    rw [hm] at hmay
    refine Fn.enter Try.func41 rfl Try.ntmps41 rfl (L := [(0, _)]) ⟨rfl, trivial⟩ fun base => ?_
    repeat ((first | apply H.seq | apply H.region))
    refine H.box (ls := m.vals q qc) rfl rfl rfl rfl fun mb => ?_
    repeat (first | ((apply H.assign); (iterate 3 exact rfl)) | (first | apply H.seq | apply H.region | apply H.nil | apply H.then_normal))
    refine H.loadN (ls := m.vals q qc) rfl rfl rfl (Rd.ofRow (by repeat (first | exact .here _ _ _ | apply At.there))) rfl rfl ?_
    refine H.callR rfl rfl rfl (hmay _) ?_
    repeat (first | (apply H.fieldAddr; (iterate 3 exact rfl); exact inferInstance; exact rfl) | (apply H.load1; (iterate 3 exact rfl); apply Rd1.ofRow; (repeat (exact .here _ _ _)); (iterate 2 exact rfl)) | (first | apply H.seq | apply H.region | apply H.nil | apply H.then_normal) | ((apply H.conv_int; (iterate 2 exact rfl)); (rfl); exact rfl) | ((apply H.not); (iterate 4 exact rfl)) | (apply H.cond_false; exact rfl) | (apply H.skip))
    rw [u8_b8]
    refine H.buildSlice (out := bytesV [b8 m.origin]) rfl rfl rfl rfl (by decide) (by decide) rfl rfl fun tb => ?_
    refine H.asSlc (k := 1) (sz := 1) rfl (by decide) ?_
    repeat (first | ((apply H.assign); (iterate 3 exact rfl)) | (first | apply H.seq | apply H.region | apply H.nil | apply H.then_normal) | (apply H.block))
    generalize hB0 : [b8 m.origin] = B0
    have hB0l : B0.length = 1 := by rw [← hB0]; rfl
    refine H.front (.there _ (.here _ _)) ?_
    refine H.loop (ι := Nat × Option Addr × Nat) (fun i => [(4, .int .i64 (i.1 : Int)), (3, .slice i.2.1 (B0 ++ depsB m.deps i.1).length i.2.2), (1, .pointer (some ⟨mb, 0, none⟩))]) (fun _ => f)
      (fun i => row mb 61 (m.vals q qc) :: slc i.2.1 (B0 ++ depsB m.deps i.1).length i.2.2 5 1 (bytesV (B0 ++ depsB m.deps i.1)) :: F) (fun i => i.1 ≤ 11) (fun i => 11 - i.1) (0, some ⟨tb, 0, none⟩, 1) (Nat.zero_le _) ⟨rfl, ?_, rfl, trivial⟩ rfl ?_ fun i hi => ?_
    · show some (Value.slice _ 1 1) = some (Value.slice _ (B0 ++ []).length 1)
      rw [List.append_nil, hB0l]
    · show _ = _ :: slc _ (B0 ++ []).length 1 _ 1 (bytesV (B0 ++ [])) :: F
      rw [List.append_nil, hB0l]
    · obtain ⟨i, p', c'⟩ := i
      have hi : i ≤ 11 := hi
      show H _ _ _ [(4, .int .i64 (i : Int)), (3, .slice p' (B0 ++ depsB m.deps i).length c'), _] _ (_ :: slc p' (B0 ++ depsB m.deps i).length c' _ 1 (bytesV (B0 ++ depsB m.deps i)) :: F) _
      have hal : (B0 ++ depsB m.deps i).length = 1 + 8 * i := by rw [List.length_append, depsB_len, hB0l]
      by_cases hlt : i < 11
      · have e1 : B0 ++ depsB m.deps (i + 1) = (B0 ++ depsB m.deps i) ++ be 8 (m.deps i) := by simp only [depsB, List.append_assoc]
        generalize B0 ++ depsB m.deps i = acc at hal e1 ⊢
        repeat (first | ((apply H.move); (iterate 3 exact rfl)) | (apply H.fieldAddr; (iterate 3 exact rfl); exact inferInstance; exact rfl) | (first | apply H.seq | apply H.region | apply H.nil | apply H.then_normal) | ((apply H.cmp); (iterate 5 exact rfl)) | (first | apply H.skip | apply H.block) | (apply H.cond_yes; exact rfl; (omega)))
        refine H.index_array (i := i) rfl rfl rfl rfl hlt rfl ?_
        refine H.load1 rfl rfl rfl (.of (msg_deps (by repeat (first | exact .here _ _ _ | apply At.there))) (by rw [Nat.mul_one]; exact v11_get m.deps hlt)) rfl ?_
        refine H.callE2 rfl rfl rfl (rword_fn (l := acc) f _ (Src.slcS (by repeat (first | exact .here _ _ _ | apply At.there)) (by rw [bytesV_len]; exact (Nat.mul_one _).symm)) (by omega)) fun p1 c1 => ?_
        repeat (first | ((first | apply H.move | apply H.assign); (iterate 3 exact rfl)) | (first | apply H.region | apply H.nil | apply H.then_normal) | ((apply H.ar; (iterate 4 exact rfl)); (with_reducible apply wr_i64_n1; omega); exact rfl) | (apply H.in_normal))
        refine H.drop (x := slc p' _ c' _ _ _) (by repeat (first | exact .here _ _ | apply Pull.there)) ?_
        refine H.front (.there _ (.here _ _)) ?_
        refine H.again (i + 1, p1, c1) (by show i + 1 ≤ 11; omega) (by show 11 - (i + 1) < 11 - i; omega) ⟨rfl, ?_, rfl, trivial⟩ rfl ?_
        · show some _ = some (Value.slice p1 (B0 ++ depsB m.deps (i + 1)).length c1)
          rw [e1]
        · show _ = _ :: slc p1 (B0 ++ depsB m.deps (i + 1)).length c1 _ 1 (bytesV (B0 ++ depsB m.deps (i + 1))) :: F
          rw [e1]
      · have hi11 : i = 11 := by omega
        subst hi11
        generalize hacc : B0 ++ depsB m.deps 11 = acc at hal ⊢
        repeat (first | ((apply H.move); (iterate 3 exact rfl)) | (apply H.fieldAddr; (iterate 3 exact rfl); exact inferInstance; exact rfl) | (first | apply H.seq | apply H.region | apply H.nil | apply H.then_normal) | ((apply H.cmp); (iterate 5 exact rfl)) | (apply H.cond_false; exact rfl) | (first | apply H.then_exit | apply H.exit | apply H.in_hit | apply H.loop_exit))
        refine H.loadN (ls := m.body.vals q qc) rfl rfl rfl (msg_body (by repeat (first | exact .here _ _ _ | apply At.there))) rfl rfl ?_
        refine H.alloc (ls := (Bod.zero 0).vals none 0) rfl rfl rfl fun yb => ?_
        refine H.storeN (ls := (Bod.zero 0).vals none 0) (vs := m.body.vals q qc) (ls' := m.body.vals q qc) rfl rfl rfl (allOne_mem rfl) rfl rfl (Nat.le_refl 76) (by repeat (first | exact .here _ _ _ | apply At.there)) ?_
        repeat (first | ((apply H.move); (iterate 3 exact rfl)) | (apply H.fieldAddr; (iterate 3 exact rfl); exact inferInstance; exact rfl) | (apply H.load1; (iterate 3 exact rfl); apply Rd1.ofRow; (repeat (exact .here _ _ _)); (iterate 2 exact rfl)) | (first | apply H.seq | apply H.region | apply H.nil | apply H.then_normal))
        refine H.buildSlice (out := bytesV [m.body.kind]) rfl rfl rfl rfl (by decide) (by decide) rfl rfl fun tb => ?_
        refine H.append (m := 1) (xs := bytesV acc) rfl rfl rfl rfl rfl (fun p' c' => (by repeat (first | exact .here _ _ _ | apply At.there))) (Src.slice (Rd.ofRow (by repeat (first | exact .here _ _ _ | apply At.there))) rfl) (bytesV_one _) rfl (by omega) (by omega) fun p2 c2 => ?_
        repeat (first | ((apply H.assign); (iterate 3 exact rfl)) | (apply H.fieldAddr; (iterate 3 exact rfl); exact inferInstance; exact rfl) | (apply H.load1; (iterate 3 exact rfl); apply Rd1.ofRow; (repeat (first | exact .here _ _ _ | apply At.there)); (iterate 2 exact rfl)) | (first | apply H.seq | apply H.region | apply H.nil | apply H.then_normal) | ((apply H.cmp); (iterate 5 exact rfl)))
        refine H.drop (x := row tb _ _) (by repeat (first | exact .here _ _ | apply Pull.there)) ?_
        have e2 : (acc ++ [m.body.kind]).length = acc.length + 1 := by rw [List.length_append]; rfl
        have e3 : bytesV (acc ++ [m.body.kind]) = bytesV acc ++ bytesV [m.body.kind] := bytesV_append _ _
        show H _ _ _ ((33, _) :: (32, _) :: (31, _) :: (3, .slice p2 (acc.length + 1) c2) :: _) _ (_ :: _ :: slc p2 (acc.length + 1) c2 _ 1 (bytesV acc ++ bytesV [m.body.kind]) :: F) _
        rw [← e2, ← e3]
        have htag : m.tagged = (acc ++ [m.body.kind]) ++ m.body.putK m.body.kind.toNat := by rw [← hacc, ← hB0]; rfl
        rw [htag]
        have hal2 : (acc ++ [m.body.kind]).length = 90 := by omega
        generalize acc ++ [m.body.kind] = l0 at hal2 ⊢
        have hbm := Bod.may_spec (Msg.may_body hm)
        have hql := Bod.may_q (Msg.may_body hm)
        have hmk := hbm.2.2
        generalize hk : m.body.kind.toNat = kind at hmk
        match kind, hk, hmk with
        | 0, hk, hmk => exact absurd hmk (by simp [Bod.mayK])
        | k + 7, hk, hmk => exact absurd hmk (by simp [Bod.mayK])
        | 2, hk, hmk =>
          repeat (first | ((apply H.move); (iterate 3 exact rfl)) | (apply H.fieldAddr; (iterate 3 exact rfl); exact inferInstance; exact rfl) | (apply H.load1; (iterate 3 exact rfl); apply Rd1.ofRow; (repeat (exact .here _ _ _)); (iterate 2 exact rfl)) | (apply H.region) | (apply H.cond_true; exact rfl))
          refine H.callE2 rfl rfl rfl (rword_fn (l := l0) f _ (Src.slcS (by repeat (first | exact .here _ _ _ | apply At.there)) (by rw [bytesV_len]; exact (Nat.mul_one _).symm)) (by omega)) fun p3 c3 => ?_
          refine H.drop (x := slc p2 _ c2 _ _ _) (by repeat (first | exact .here _ _ | apply Pull.there)) ?_
          have e4 : (l0 ++ be 8 m.body.view).length = 98 := by rw [List.length_append, be_len, hal2]
          generalize hl1 : l0 ++ be 8 m.body.view = l1 at e4
          repeat (first | ((first | apply H.move | apply H.assign); (iterate 3 exact rfl)) | (apply H.fieldAddr; (iterate 3 exact rfl); exact inferInstance; exact rfl) | (apply H.load1; (iterate 3 exact rfl); apply Rd1.ofRow; (repeat (first | exact .here _ _ _ | apply At.there)); (iterate 2 exact rfl)) | (first | apply H.seq | apply H.region | apply H.nil | apply H.then_normal) | ((apply H.cmp); (iterate 5 exact rfl)) | (apply H.block) | (apply H.cond_yes; exact rfl; (omega)) | (apply H.cond_no; exact rfl; (omega)))
          refine H.callE2 rfl rfl rfl (rword_fn (l := l1) f _ (Src.slcS (by repeat (first | exact .here _ _ _ | apply At.there)) (by rw [bytesV_len]; exact (Nat.mul_one _).symm)) (by omega)) fun p4 c4 => ?_
          refine H.drop (x := slc p3 _ c3 _ _ _) (by repeat (first | exact .here _ _ | apply Pull.there)) ?_
          repeat (first | ((first | apply H.move | apply H.assign); (iterate 3 exact rfl)) | (first | apply H.seq | apply H.region | apply H.nil | apply H.then_normal) | (first | apply H.ret | apply H.in_normal))
          refine H.drop (x := row yb _ _) (by repeat (first | exact .here _ _ | apply Pull.there)) ?_
          refine H.drop (x := row mb _ _) (by repeat (first | exact .here _ _ | apply Pull.there)) ?_
          have e9 : l0 ++ m.body.putK 2 = l1 ++ be 8 m.body.k := by rw [← hl1]; simp only [Bod.putK, List.append_assoc]
          exact H.ret1 rfl rfl (fun _ h => h) ⟨p4, c4, by rw [e9], rfl, by rw [e9]⟩
        | 3, hk, hmk =>
          repeat (first | ((apply H.move); (iterate 3 exact rfl)) | (apply H.fieldAddr; (iterate 3 exact rfl); exact inferInstance; exact rfl) | (apply H.load1; (iterate 3 exact rfl); apply Rd1.ofRow; (repeat (exact .here _ _ _)); (iterate 2 exact rfl)) | (apply H.region) | (apply H.cond_true; exact rfl))
          refine H.callE2 rfl rfl rfl (rword_fn (l := l0) f _ (Src.slcS (by repeat (first | exact .here _ _ _ | apply At.there)) (by rw [bytesV_len]; exact (Nat.mul_one _).symm)) (by omega)) fun p3 c3 => ?_
          refine H.drop (x := slc p2 _ c2 _ _ _) (by repeat (first | exact .here _ _ | apply Pull.there)) ?_
          repeat (first | ((first | apply H.move | apply H.assign); (iterate 3 exact rfl)) | (apply H.fieldAddr; (iterate 3 exact rfl); exact inferInstance; exact rfl) | (apply H.load1; (iterate 3 exact rfl); apply Rd1.ofRow; (repeat (first | exact .here _ _ _ | apply At.there)); (iterate 2 exact rfl)) | (first | apply H.seq | apply H.region | apply H.nil | apply H.then_normal) | ((apply H.cmp); (iterate 5 exact rfl)) | (first | apply H.skip | apply H.ret | apply H.block | apply H.in_normal) | (apply H.cond_no; exact rfl; (omega)))
          refine H.drop (x := row yb _ _) (by repeat (first | exact .here _ _ | apply Pull.there)) ?_
          refine H.drop (x := row mb _ _) (by repeat (first | exact .here _ _ | apply Pull.there)) ?_
          exact H.ret1 rfl rfl (fun _ h => h) ⟨p3, c3, rfl, rfl, rfl⟩
        | 5, hk, hmk =>
          repeat (first | ((apply H.move); (iterate 3 exact rfl)) | (apply H.fieldAddr; (iterate 3 exact rfl); exact inferInstance; exact rfl) | (apply H.load1; (iterate 3 exact rfl); apply Rd1.ofRow; (repeat (exact .here _ _ _)); (iterate 2 exact rfl)) | (apply H.region) | (apply H.cond_true; exact rfl))
          refine H.callE2 rfl rfl rfl (rword_fn (l := l0) f _ (Src.slcS (by repeat (first | exact .here _ _ _ | apply At.there)) (by rw [bytesV_len]; exact (Nat.mul_one _).symm)) (by omega)) fun p3 c3 => ?_
          refine H.drop (x := slc p2 _ c2 _ _ _) (by repeat (first | exact .here _ _ | apply Pull.there)) ?_
          repeat (first | ((first | apply H.move | apply H.assign); (iterate 3 exact rfl)) | (apply H.fieldAddr; (iterate 3 exact rfl); exact inferInstance; exact rfl) | (apply H.load1; (iterate 3 exact rfl); apply Rd1.ofRow; (repeat (first | exact .here _ _ _ | apply At.there)); (iterate 2 exact rfl)) | (first | apply H.seq | apply H.region | apply H.nil | apply H.then_normal) | ((apply H.cmp); (iterate 5 exact rfl)) | (first | apply H.skip | apply H.ret | apply H.block | apply H.in_normal) | (apply H.cond_no; exact rfl; (omega)))
          refine H.drop (x := row yb _ _) (by repeat (first | exact .here _ _ | apply Pull.there)) ?_
          refine H.drop (x := row mb _ _) (by repeat (first | exact .here _ _ | apply Pull.there)) ?_
          exact H.ret1 rfl rfl (fun _ h => h) ⟨p3, c3, rfl, rfl, rfl⟩
        | 6, hk, hmk =>
          repeat (first | ((apply H.assign); (iterate 3 exact rfl)) | (apply H.fieldAddr; (iterate 3 exact rfl); exact inferInstance; exact rfl) | (apply H.load1; (iterate 3 exact rfl); apply Rd1.ofRow; (repeat (exact .here _ _ _)); (iterate 2 exact rfl)) | (first | apply H.seq | apply H.region | apply H.nil | apply H.then_normal) | ((apply H.cmp); (iterate 5 exact rfl)) | (apply H.cond_false; exact rfl) | (first | apply H.skip | apply H.block) | (apply H.cond_yes; exact rfl; (omega)) | (apply H.cond_no; exact rfl; (omega)))
          refine H.drawB (by kernel_rfl) (by decide +kernel) (by first | exact blind_fn | exact blind_seq blind_fn | exact blind_seq (blind_seq blind_fn) | (repeat (first | exact blind_fn | refine blind_seq ?_ | refine blind_block ?_ | refine blind_loop ?_))) (S := [_]) rfl ?_
          refine HB.quiet [(0, false), (1, false), (2, false), (4, false), (5, false)] 3 (by kernel_rfl) ?_
          repeat (first | ((apply HQ.move); (iterate 3 exact rfl)) | (apply HQ.fieldAddr; (iterate 3 exact rfl); exact inferInstance; exact rfl) | (apply HQ.load1; (iterate 3 exact rfl); apply Rd1.ofRow; (repeat (exact .here _ _ _)); (iterate 2 exact rfl)))
          refine HQ.sliceArr (lo := none) (hi := none) (mx := none) (lv := 0) (hv := 32) (mv := 32) rfl rfl rfl rfl rfl (fun h => by cases h) (by decide) (by decide) (by decide) rfl ?_
          refine HQ.more rfl ?_
          refine HB.ev1 (i := 3) (by kernel_rfl) rfl ?_
          refine H.callE2 rfl rfl rfl (rword_fn (l := l0) f _ (Src.slcS (by repeat (first | exact .here _ _ _ | apply At.there)) (by rw [bytesV_len]; exact (Nat.mul_one _).symm)) (by omega)) fun p3 c3 => ?_
          repeat ((apply H.nil))
          refine H.drop (x := slc p2 _ c2 _ _ _) (by repeat (first | exact .here _ _ | apply Pull.there)) ?_
          refine H.front (x := row yb _ _) (by repeat (first | exact .here _ _ | apply Pull.there)) ?_
          refine H.on0 rfl ?_
          have e4 : (l0 ++ be 8 m.body.k).length = 98 := by rw [List.length_append, be_len, hal2]
          generalize hl1 : l0 ++ be 8 m.body.k = l1 at e4
          refine HB.ev1 (i := 6) (by kernel_rfl) rfl ?_
          refine H.append (m := 32) (xs := bytesV l1) rfl rfl rfl rfl rfl (fun p' c' => (by repeat (first | exact .here _ _ _ | apply At.there))) (Src.slice (row_dig (by repeat (first | exact .here _ _ _ | apply At.there))) rfl) (bytesV_one _) rfl (by omega) (by omega) fun p4 c4 => ?_
          repeat ((apply H.nil))
          refine H.on0 rfl ?_
          refine HB.quiet [(7, false)] 0 (by kernel_rfl) ?_
          repeat (((apply HQ.assign); (iterate 3 exact rfl)))
          refine HQ.more rfl ?_
          refine HB.done (by kernel_rfl) ?_
          repeat (first | ((first | apply H.move | apply H.assign); (iterate 3 exact rfl)) | (first | apply H.seq | apply H.region | apply H.nil | apply H.then_normal) | (first | apply H.ret | apply H.in_normal))
          refine H.drop (x := row yb _ _) (by repeat (first | exact .here _ _ | apply Pull.there)) ?_
          refine H.drop (x := row mb _ _) (by repeat (first | exact .here _ _ | apply Pull.there)) ?_
          have e9 : l0 ++ m.body.putK 6 = l1 ++ b32L m.body.dig := by rw [← hl1]; simp only [Bod.putK, List.append_assoc]
          exact H.ret1 rfl rfl (fun _ h => h) ⟨p4, c4, by rw [e9, List.length_append]; rfl, rfl, by rw [e9, List.length_append, bytesV_append]; rfl⟩
        | 1, hk, hmk =>
          have ha : m.body.req.asked := of_decide_eq_true hmk
          have hrl : m.body.req.bytes.length ≤ 1000 := by
            obtain ⟨_, _, _, _, ⟨k1, k2⟩, k3, k4⟩ := ha
            rw [Req.bytes_len]; omega
          repeat (first | ((apply H.move); (iterate 3 exact rfl)) | (apply H.fieldAddr; (iterate 3 exact rfl); exact inferInstance; exact rfl) | (apply H.load1; (iterate 3 exact rfl); apply Rd1.ofRow; (repeat (exact .here _ _ _)); (iterate 2 exact rfl)) | (apply H.region) | (apply H.cond_true; exact rfl))
          refine H.callE2 rfl rfl rfl (rword_fn (l := l0) f _ (Src.slcS (by repeat (first | exact .here _ _ _ | apply At.there)) (by rw [bytesV_len]; exact (Nat.mul_one _).symm)) (by omega)) fun p3 c3 => ?_
          refine H.drop (x := slc p2 _ c2 _ _ _) (by repeat (first | exact .here _ _ | apply Pull.there)) ?_
          have e4 : (l0 ++ be 8 m.body.view).length = 98 := by rw [List.length_append, be_len, hal2]
          generalize hl1 : l0 ++ be 8 m.body.view = l1 at e4
          repeat (first | ((apply H.assign); (iterate 3 exact rfl)) | (apply H.fieldAddr; (iterate 3 exact rfl); exact inferInstance; exact rfl) | (apply H.load1; (iterate 3 exact rfl); apply Rd1.ofRow; (repeat (first | exact .here _ _ _ | apply At.there)); (iterate 2 exact rfl)) | (first | apply H.seq | apply H.region | apply H.nil | apply H.then_normal) | ((apply H.cmp); (iterate 5 exact rfl)) | (apply H.block) | (apply H.cond_yes; exact rfl; (omega)))
          refine H.front (x := row yb _ _) (by repeat (first | exact .here _ _ | apply Pull.there)) ?_
          refine H.drawB (by kernel_rfl) (by decide +kernel) (by first | exact blind_fn | exact blind_seq blind_fn | exact blind_seq (blind_seq blind_fn) | (repeat (first | exact blind_fn | refine blind_seq ?_ | refine blind_block ?_ | refine blind_loop ?_))) (S := [_]) rfl ?_
          refine HB.quiet [(0, false), (1, false), (2, false), (4, false), (5, false), (6, false)] 3 (by kernel_rfl) ?_
          repeat (first | ((apply HQ.move); (iterate 3 exact rfl)) | (apply HQ.fieldAddr; (iterate 3 exact rfl); exact inferInstance; exact rfl))
          refine HQ.loadN (ls := m.body.req.vals) rfl rfl rfl (row_req (by repeat (first | exact .here _ _ _ | apply At.there))) rfl rfl ?_
          repeat ((apply HQ.fieldAddr; (iterate 3 exact rfl); exact inferInstance; exact rfl))
          refine HQ.sliceArr (lo := none) (hi := none) (mx := none) (lv := 0) (hv := 32) (mv := 32) rfl rfl rfl rfl rfl (fun h => by cases h) (by decide) (by decide) (by decide) rfl ?_
          refine HQ.more rfl ?_
          refine HB.ev1 (i := 3) (by kernel_rfl) rfl ?_
          refine H.front (x := slc p3 _ c3 _ _ _) (by repeat (first | exact .here _ _ | apply Pull.there)) ?_
          refine H.callE2 rfl rfl rfl (rrequest_fn (l := l1) f _ m.body.req ha (by omega)) fun p4 c4 => ?_
          have e5 : (l1 ++ m.body.req.bytes).length = l1.length + m.body.req.bytes.length := List.length_append
          generalize hl2 : l1 ++ m.body.req.bytes = l2 at e5
          repeat ((apply H.nil))
          refine H.front (x := row yb _ _) (by repeat (first | exact .here _ _ | apply Pull.there)) ?_
          refine H.on0 rfl ?_
          refine HB.ev1 (i := 7) (by kernel_rfl) rfl ?_
          refine H.append (m := 32) (xs := bytesV l2) rfl rfl rfl rfl rfl (fun p' c' => (by repeat (first | exact .here _ _ _ | apply At.there))) (Src.slice (row_rtag (by repeat (first | exact .here _ _ _ | apply At.there))) rfl) (bytesV_one _) rfl (by omega) (by omega) fun p5 c5 => ?_
          repeat ((apply H.nil))
          refine H.on0 rfl ?_
          refine HB.quiet [(8, false)] 0 (by kernel_rfl) ?_
          repeat (((apply HQ.assign); (iterate 3 exact rfl)))
          refine HQ.more rfl ?_
          refine HB.done (by kernel_rfl) ?_
          repeat (first | ((first | apply H.move | apply H.assign); (iterate 3 exact rfl)) | (first | apply H.seq | apply H.region | apply H.nil | apply H.then_normal) | (first | apply H.ret | apply H.in_normal))
          refine H.drop (x := row yb _ _) (by repeat (first | exact .here _ _ | apply Pull.there)) ?_
          refine H.drop (x := row mb _ _) (by repeat (first | exact .here _ _ | apply Pull.there)) ?_
          have e9 : l0 ++ m.body.putK 1 = l2 ++ b32L m.body.req.tag := by rw [← hl2, ← hl1]; simp only [Bod.putK, List.append_assoc]
          exact H.ret1 rfl rfl (fun _ h => h) ⟨p5, c5, by rw [e9, List.length_append]; rfl, rfl, by rw [e9, List.length_append, bytesV_append]; rfl⟩
        | 4, hk, hmk =>
          repeat (first | ((apply H.move); (iterate 3 exact rfl)) | (apply H.fieldAddr; (iterate 3 exact rfl); exact inferInstance; exact rfl) | (apply H.load1; (iterate 3 exact rfl); apply Rd1.ofRow; (repeat (exact .here _ _ _)); (iterate 2 exact rfl)) | (apply H.region) | (apply H.cond_true; exact rfl))
          refine H.callE2 rfl rfl rfl (rword_fn (l := l0) f _ (Src.slcS (by repeat (first | exact .here _ _ _ | apply At.there)) (by rw [bytesV_len]; exact (Nat.mul_one _).symm)) (by omega)) fun p3 c3 => ?_
          refine H.drop (x := slc p2 _ c2 _ _ _) (by repeat (first | exact .here _ _ | apply Pull.there)) ?_
          have e4 : (l0 ++ be 8 m.body.view).length = 98 := by rw [List.length_append, be_len, hal2]
          generalize hl1 : l0 ++ be 8 m.body.view = l1 at e4
          repeat (first | ((first | apply H.move | apply H.assign | apply H.len_slice); (iterate 3 exact rfl)) | (apply H.fieldAddr; (iterate 3 exact rfl); exact inferInstance; exact rfl) | (apply H.load1; (iterate 3 exact rfl); apply Rd1.ofRow; (repeat (first | exact .here _ _ _ | apply At.there)); (iterate 2 exact rfl)) | (first | apply H.seq | apply H.region | apply H.nil | apply H.then_normal) | ((apply H.cmp); (iterate 5 exact rfl)) | ((apply H.conv_int; (iterate 2 exact rfl)); (with_reducible apply wr_u8; omega); exact rfl) | (apply H.block) | (apply H.cond_yes; exact rfl; (omega)) | (apply H.cond_no; exact rfl; (omega)))
          have hlv : Value.int .u8 ((m.body.q.length : Nat) : Int) = .int .u8 ((b8 m.body.q.length).toNat : Int) := by rw [b8_small (by omega)]
          refine H.know (d := 62) rfl hlv ?_
          refine H.buildSlice (out := bytesV [b8 m.body.q.length]) rfl rfl rfl rfl (by decide) (by decide) rfl rfl fun tb => ?_
          refine H.append (m := 1) (xs := bytesV l1) rfl rfl rfl rfl rfl (fun p' c' => (by repeat (first | exact .here _ _ _ | apply At.there))) (Src.slice (Rd.ofRow (.here _ _ _)) rfl) (bytesV_one _) rfl (by omega) (by omega) fun p4 c4 => ?_
          repeat (first | ((apply H.assign); (iterate 3 exact rfl)) | (first | apply H.seq | apply H.region | apply H.nil | apply H.then_normal) | (apply H.block))
          refine H.drop (x := row tb _ _) (by repeat (first | exact .here _ _ | apply Pull.there)) ?_
          have e5 : (l1 ++ [b8 m.body.q.length]).length = l1.length + 1 := by rw [List.length_append]; rfl
          have e6 : bytesV (l1 ++ [b8 m.body.q.length]) = bytesV l1 ++ bytesV [b8 m.body.q.length] := bytesV_append _ _
          generalize hl2 : l1 ++ [b8 m.body.q.length] = l2 at e5 e6
          refine H.front (x := row mb _ _) (by repeat (first | exact .here _ _ | apply Pull.there)) ?_
          refine H.front (x := row yb _ _) (by repeat (first | exact .here _ _ | apply Pull.there)) ?_
          refine H.loop (ι := Nat × Option Addr × Nat) (fun i => [(6, .int .i64 (i.1 : Int)), (3, .slice i.2.1 (l2 ++ (m.body.q.take i.1).flatMap pairB).length i.2.2), (5, .pointer (some ⟨yb, 0, none⟩))]) (fun _ => f)
            (fun i => row yb 59 (m.body.vals q qc) :: row mb 61 (m.vals q qc) :: slc i.2.1 (l2 ++ (m.body.q.take i.1).flatMap pairB).length i.2.2 5 1 (bytesV (l2 ++ (m.body.q.take i.1).flatMap pairB)) :: F)
            (fun i => i.1 ≤ m.body.q.length ∧ (l2 ++ (m.body.q.take i.1).flatMap pairB).length = 99 + 9 * i.1) (fun i => m.body.q.length - i.1) (0, p4, c4) ⟨Nat.zero_le _, by show (l2 ++ []).length = 99; rw [List.append_nil]; omega⟩ ⟨rfl, ?_, rfl, trivial⟩ rfl ?_ fun i hi => ?_
          · show some (Value.slice p4 (l1.length + 1) c4) = some (Value.slice p4 (l2 ++ []).length c4)
            rw [List.append_nil, e5]
          · show _ = _ :: _ :: slc p4 (l2 ++ []).length c4 _ 1 (bytesV (l2 ++ [])) :: F
            rw [List.append_nil, e5, e6]
            rfl
          · obtain ⟨i, p', c'⟩ := i
            obtain ⟨hi, hlen⟩ : i ≤ m.body.q.length ∧ (l2 ++ (m.body.q.take i).flatMap pairB).length = 99 + 9 * i := hi
            show H _ _ _ [(6, .int .i64 (i : Int)), (3, .slice p' (l2 ++ (m.body.q.take i).flatMap pairB).length c'), _] _ (_ :: _ :: slc p' (l2 ++ (m.body.q.take i).flatMap pairB).length c' _ 1 (bytesV (l2 ++ (m.body.q.take i).flatMap pairB)) :: F) _
            generalize hac : l2 ++ (m.body.q.take i).flatMap pairB = ac at hlen
            by_cases hlt : i < m.body.q.length
            · obtain ⟨pr, hx⟩ : ∃ pr, m.body.q[i]? = some pr := ⟨m.body.q[i], List.getElem?_eq_getElem hlt⟩
              have e7 : l2 ++ (m.body.q.take (i + 1)).flatMap pairB = ac ++ [b8 pr.1] ++ be 8 pr.2 := by
                rw [List.take_add_one, hx, ← hac]; simp [pairB]
              obtain ⟨b, off, cs, T, fr, rfl, hfb, hcs⟩ := hq i pr hx
              have rd : ∀ A, Rd f A b (off + i * 2) (pairV pr) := fun A => Rd.imm hfb hcs
              clear hcs hfb
              repeat (first | ((first | apply H.move | apply H.len_slice); (iterate 3 exact rfl)) | (apply H.fieldAddr; (iterate 3 exact rfl); exact inferInstance; exact rfl) | (apply H.load1; (iterate 3 exact rfl); apply Rd1.ofRow; (repeat (exact .here _ _ _)); (iterate 2 exact rfl)) | (first | apply H.seq | apply H.region | apply H.nil | apply H.then_normal) | ((apply H.cmp); (iterate 5 exact rfl)) | (first | apply H.skip | apply H.block) | (apply H.cond_yes; exact rfl; (omega)))
              refine H.drawB (by kernel_rfl) (by decide +kernel) (by first | exact blind_fn | exact blind_seq blind_fn | exact blind_seq (blind_seq blind_fn) | (repeat (first | exact blind_fn | refine blind_seq ?_ | refine blind_block ?_ | refine blind_loop ?_))) (S := [_]) rfl ?_
              refine HB.quiet [(0, false), (1, false), (2, false), (3, false), (4, false), (5, false), (6, false), (7, false), (10, false), (11, false), (12, false), (13, false), (14, false), (15, false)] 4 (by kernel_rfl) ?_
              repeat (first | ((apply HQ.move); (iterate 3 exact rfl)) | (apply HQ.fieldAddr; (iterate 3 exact rfl); exact inferInstance; exact rfl) | (apply HQ.load1; (iterate 3 exact rfl); apply Rd1.ofRow; (repeat (exact .here _ _ _)); (iterate 2 exact rfl)))
              refine HQ.index_slice rfl rfl rfl rfl hlt rfl ?_
              repeat ((apply HQ.fieldAddr; (iterate 3 exact rfl); exact inferInstance; exact rfl))
              refine HQ.load1 rfl rfl rfl (.of (rd _) (i := 0) rfl) rfl ?_
              repeat (first | ((apply HQ.move); (iterate 3 exact rfl)) | (apply HQ.fieldAddr; (iterate 3 exact rfl); exact inferInstance; exact rfl) | (apply HQ.load1; (iterate 3 exact rfl); apply Rd1.ofRow; (repeat (exact .here _ _ _)); (iterate 2 exact rfl)) | ((apply HQ.conv_int; (iterate 2 exact rfl)); (rfl); exact rfl))
              rw [u8_b8]
              refine HQ.index_slice rfl rfl rfl rfl hlt rfl ?_
              repeat ((apply HQ.fieldAddr; (iterate 3 exact rfl); exact inferInstance; exact rfl))
              refine HQ.load1 rfl rfl rfl (.of (rd _) (i := 1) rfl) rfl ?_
              refine HQ.more rfl ?_
              refine HB.ev1 (i := 8) (by kernel_rfl) rfl ?_
              refine H.buildSlice (out := bytesV [b8 pr.1]) rfl rfl rfl rfl (by decide) (by decide) rfl rfl fun tb => ?_
              repeat ((apply H.nil))
              refine H.front (x := row yb _ _) (by repeat (first | exact .here _ _ | apply Pull.there)) ?_
              refine H.on0 rfl ?_
              refine HB.ev1 (i := 9) (by kernel_rfl) rfl ?_
              refine H.append (m := 1) (xs := bytesV ac) rfl rfl rfl rfl rfl (fun p' c' => (by repeat (first | exact .here _ _ _ | apply At.there))) (Src.slice (Rd.ofRow (.there _ (.here _ _ _))) rfl) (bytesV_one _) rfl (by omega) (by omega) fun p5 c5 => ?_
              repeat ((apply H.nil))
              refine H.drop (x := row tb _ _) (by repeat (first | exact .here _ _ | apply Pull.there)) ?_
              refine H.on0 rfl ?_
              refine HB.ev1 (i := 16) (by kernel_rfl) rfl ?_
              have f0 : (ac ++ [b8 pr.1]).length = ac.length + 1 := by rw [List.length_append]; rfl
              have f1 : bytesV (ac ++ [b8 pr.1]) = bytesV ac ++ bytesV [b8 pr.1] := bytesV_append _ _
              generalize ac ++ [b8 pr.1] = l4 at f0 f1 e7
              show H _ _ _ _ _ (row _ _ _ :: row _ _ _ :: slc p5 (ac.length + 1) c5 _ _ (bytesV ac ++ bytesV [b8 pr.1]) :: F) _
              rw [← f0, ← f1]
              refine H.callE2 rfl rfl rfl (rword_fn (l := l4) f _ (Src.slcS (by repeat (first | exact .here _ _ _ | apply At.there)) (by rw [bytesV_len]; exact (Nat.mul_one _).symm)) (by omega)) fun p6 c6 => ?_
              repeat ((apply H.nil))
              refine H.drop (x := slc p5 _ c5 _ _ _) (by repeat (first | exact .here _ _ | apply Pull.there)) ?_
              refine H.front (x := row mb _ _) (by repeat (first | exact .here _ _ | apply Pull.there)) ?_
              refine H.front (x := row yb _ _) (by repeat (first | exact .here _ _ | apply Pull.there)) ?_
              refine H.on0 rfl ?_
              refine HB.quiet [(17, false)] 0 (by kernel_rfl) ?_
              repeat (((apply HQ.assign); (iterate 3 exact rfl)))
              refine HQ.more rfl ?_
              refine HB.done (by kernel_rfl) ?_
              repeat (first | ((first | apply H.move | apply H.assign); (iterate 3 exact rfl)) | (first | apply H.region | apply H.nil | apply H.then_normal) | ((apply H.ar; (iterate 4 exact rfl)); (with_reducible apply wr_i64_n1; omega); exact rfl) | (apply H.in_normal))
              refine H.again (i + 1, p6, c6) ⟨by show i + 1 ≤ m.body.q.length; omega, ?_⟩ (by show m.body.q.length - (i + 1) < m.body.q.length - i; omega) ⟨rfl, ?_, rfl, trivial⟩ rfl ?_
              · show (l2 ++ (m.body.q.take (i + 1)).flatMap pairB).length = 99 + 9 * (i + 1)
                rw [e7, List.length_append, be_len]; omega
              · show some _ = some (Value.slice p6 (l2 ++ (m.body.q.take (i + 1)).flatMap pairB).length c6)
                rw [e7]
              · show _ = _ :: _ :: slc p6 (l2 ++ (m.body.q.take (i + 1)).flatMap pairB).length c6 _ 1 (bytesV (l2 ++ (m.body.q.take (i + 1)).flatMap pairB)) :: F
                rw [e7]
                rfl
            · have hiq : i = m.body.q.length := by omega
              rw [hiq, List.take_length] at hac
              repeat (first | ((first | apply H.move | apply H.assign | apply H.len_slice); (iterate 3 exact rfl)) | (apply H.fieldAddr; (iterate 3 exact rfl); exact inferInstance; exact rfl) | (apply H.load1; (iterate 3 exact rfl); apply Rd1.ofRow; (repeat (exact .here _ _ _)); (iterate 2 exact rfl)) | (first | apply H.seq | apply H.region | apply H.nil | apply H.then_normal) | ((apply H.cmp); (iterate 5 exact rfl)) | (first | apply H.ret | apply H.then_exit | apply H.exit | apply H.in_normal | apply H.in_hit | apply H.loop_exit) | (apply H.cond_no; exact rfl; (omega)))
              refine H.drop (x := row yb _ _) (by repeat (first | exact .here _ _ | apply Pull.there)) ?_
              refine H.drop (x := row mb _ _) (by repeat (first | exact .here _ _ | apply Pull.there)) ?_
              have e9 : l0 ++ m.body.putK 4 = ac := by rw [← hac, ← hl2, ← hl1]; simp only [Bod.putK, List.append_assoc]
              exact H.ret1 rfl rfl (fun _ h => h) ⟨p', c', by rw [e9], rfl, by rw [e9]⟩
  · rw [if_neg hm]
    rw [Bool.eq_false_iff.2 hm] at hmay
    refine Fn.enter Try.func41 rfl Try.ntmps41 rfl (L := [(0, _)]) ⟨rfl, trivial⟩ fun base => ?_
    repeat ((first | apply H.seq | apply H.region))
    refine H.box (ls := m.vals q qc) rfl rfl rfl rfl fun mb => ?_
    repeat (first | ((apply H.assign); (iterate 3 exact rfl)) | (first | apply H.seq | apply H.region | apply H.nil | apply H.then_normal))
    refine H.loadN (ls := m.vals q qc) rfl rfl rfl (Rd.ofRow (by repeat (first | exact .here _ _ _ | apply At.there))) rfl rfl ?_
    refine H.callR rfl rfl rfl (hmay _) ?_
    repeat (first | ((apply H.assign); (iterate 3 exact rfl)) | (first | apply H.seq | apply H.region | apply H.nil | apply H.then_normal) | ((apply H.not); (iterate 4 exact rfl)) | (apply H.cond_true; exact rfl) | (first | apply H.ret | apply H.then_ret))
    refine H.drop (.here _ _) ?_
    refine H.slc0 5 1 ?_
    exact H.ret1 rfl rfl (fun _ h => h) ⟨none, 0, rfl, rfl, rfl⟩
end
end Go.Proofs.Ytcaofnfemogleaa

/- Layer 2: the document's SHA-256. -/
namespace Go.Proofs.Ytcaofnfemogleaa
set_option linter.unusedSectionVars false
set_option linter.unusedSimpArgs false
set_option linter.unusedVariables false
open Go
theorem b32_get (t : Nat → UInt8) {i : Nat} (h : i < 32) : (b32 t)[i]? = some (.int .u8 ((t i).toNat : Nat)) := by
  match i, h with
  | 0, _ => rfl
  | 1, _ => rfl
  | 2, _ => rfl
  | 3, _ => rfl
  | 4, _ => rfl
  | 5, _ => rfl
  | 6, _ => rfl
  | 7, _ => rfl
  | 8, _ => rfl
  | 9, _ => rfl
  | 10, _ => rfl
  | 11, _ => rfl
  | 12, _ => rfl
  | 13, _ => rfl
  | 14, _ => rfl
  | 15, _ => rfl
  | 16, _ => rfl
  | 17, _ => rfl
  | 18, _ => rfl
  | 19, _ => rfl
  | 20, _ => rfl
  | 21, _ => rfl
  | 22, _ => rfl
  | 23, _ => rfl
  | 24, _ => rfl
  | 25, _ => rfl
  | 26, _ => rfl
  | 27, _ => rfl
  | 28, _ => rfl
  | 29, _ => rfl
  | 30, _ => rfl
  | 31, _ => rfl
  | n + 32, h => exact absurd h (by omega)
theorem tmod64 (n m : Nat) : ((n : Int)).tmod (m : Int) = ((n % m : Nat) : Int) := rfl
theorem tdiv64 (n m : Nat) : ((n : Int)).tdiv (m : Int) = ((n / m : Nat) : Int) := rfl
namespace Sha
theorem padded_len (b : List UInt8) : (padded b).length = b.length + 1 + padZ b.length + 8 := by
  unfold padded
  simp only [List.length_append, List.length_cons, List.length_nil, List.length_replicate, be_len]
theorem padded_mod (b : List UInt8) : (padded b).length % 64 = 0 := by
  rw [padded_len]; unfold padZ; omega
theorem pad_not {n i : Nat} (h : i < padZ n) : (n + 1 + i) % 64 ≠ 56 := by
  unfold padZ at h; omega
theorem pad_is (n : Nat) : (n + 1 + padZ n) % 64 = 56 := by
  unfold padZ; omega
theorem chunk_get (P : List UInt8) {j i : Nat} (hi : i < 64) : ((P.drop (64 * j)).take 64).getD i 0 = P.getD (64 * j + i) 0 := by
  rw [List.getD_eq_getElem?_getD, List.getElem?_take, if_pos hi, List.getElem?_drop, ← List.getD_eq_getElem?_getD]
end Sha
section
variable (f : Frag) (F : List HP)
def zb (n : Nat) : List Value := List.replicate n (.int .u8 0)
set_option maxHeartbeats 800000 in
theorem rsum_fn {p : Option Addr} {c : Nat} {b : List UInt8} (hs : Src Try.prog f F (.slice p b.length c) 1 b.length (bytesV b)) (hl : b.length ≤ 1000000000) :
    Fn Try.prog 79 [.slice p b.length c] f F (Ret (.agg (b32 (Sha.sum b)).toArray) f F) := by
  refine Fn.enter Try.func79 rfl Try.ntmps79 rfl (L := [(0, _)]) ⟨rfl, trivial⟩ fun base => ?_
  repeat ((first | apply H.seq | apply H.region))
  refine H.alloc (ls := zb 32) rfl rfl rfl fun ob => ?_
  repeat ((first | apply H.seq | apply H.region | apply H.nil | apply H.then_normal))
  refine H.buildSlice rfl rfl rfl rfl (by decide) (by decide) rfl rfl fun eb => ?_
  refine H.asSlc (k := 0) (sz := 1) rfl (by decide) ?_
  repeat (((apply H.move); (iterate 3 exact rfl)))
  refine H.append (xs := []) rfl rfl rfl rfl rfl (fun p' c' => .here _ _ _) hs.cons.cons (bytesV_one b) rfl (by omega) (by omega) fun p1 c1 => ?_
  rw [Nat.zero_add, List.nil_append]
  refine H.buildSlice (out := bytesV [0x80]) rfl rfl rfl rfl (by decide) (by decide) rfl rfl fun tb => ?_
  refine H.append (m := 1) (xs := bytesV b) rfl rfl rfl rfl rfl (fun p' c' => (by repeat (first | exact .here _ _ _ | apply At.there))) (Src.slice (Rd.ofRow (.here _ _ _)) rfl) (bytesV_one _) rfl (by omega) (by omega) fun p2 c2 => ?_
  refine H.drop (x := row tb _ _) (by repeat (first | exact .here _ _ | apply Pull.there)) ?_
  repeat (first | ((apply H.assign); (iterate 3 exact rfl)) | (first | apply H.seq | apply H.nil | apply H.then_normal) | (apply H.block))
  have e1 : (b ++ [0x80]).length = b.length + 1 := by rw [List.length_append]; rfl
  have e2 : bytesV (b ++ [0x80]) = bytesV b ++ bytesV [0x80] := bytesV_append _ _
  refine H.loop (ι := Nat × Option Addr × Nat) (fun i => [(3, .slice i.2.1 (b ++ [0x80] ++ List.replicate i.1 0).length i.2.2), (0, .slice p b.length c), (2, .pointer (some ⟨ob, 0, none⟩))]) (fun _ => f)
    (fun i => slc i.2.1 (b ++ [0x80] ++ List.replicate i.1 0).length i.2.2 5 1 (bytesV (b ++ [0x80] ++ List.replicate i.1 0)) :: row ob 54 (zb 32) :: F) (fun i => i.1 ≤ Sha.padZ b.length) (fun i => Sha.padZ b.length - i.1) (0, p2, c2) (Nat.zero_le _) ⟨?_, rfl, rfl, trivial⟩ rfl ?_ fun i hi => ?_
  · show some (Value.slice p2 (b.length + 1) c2) = some (Value.slice p2 (b ++ [0x80] ++ []).length c2)
    rw [List.append_nil, e1]
  · show _ = slc p2 (b ++ [0x80] ++ []).length c2 _ 1 (bytesV (b ++ [0x80] ++ [])) :: _
    rw [List.append_nil, e1, e2]
    rfl
  obtain ⟨i, p', c'⟩ := i
  have hi : i ≤ Sha.padZ b.length := hi
  have hpz : Sha.padZ b.length < 64 := Nat.mod_lt _ (by decide)
  show H _ _ _ [(3, .slice p' (b ++ [0x80] ++ List.replicate i 0).length c'), _, _] _ (slc p' (b ++ [0x80] ++ List.replicate i 0).length c' _ 1 (bytesV (b ++ [0x80] ++ List.replicate i 0)) :: _) _
  have hal : (b ++ [0x80] ++ List.replicate i 0).length = b.length + 1 + i := by rw [List.length_append, e1, List.length_replicate]
  by_cases hlt : i < Sha.padZ b.length
  · have hnot := Sha.pad_not hlt
    have e3 : b ++ [0x80] ++ List.replicate (i + 1) 0 = (b ++ [0x80] ++ List.replicate i 0) ++ [0] := by rw [List.replicate_succ', ← List.append_assoc]
    generalize b ++ [0x80] ++ List.replicate i 0 = acc at hal e3 ⊢
    repeat (first | ((first | apply H.move | apply H.len_slice); (iterate 3 exact rfl)) | (first | apply H.seq | apply H.region))
    refine H.rem rfl rfl rfl (by decide) (tmod64 acc.length 64) rfl ?_
    repeat (first | ((apply H.move); (iterate 3 exact rfl)) | (first | apply H.region | apply H.nil | apply H.then_normal) | ((apply H.cmp); (iterate 5 exact rfl)) | (first | apply H.skip | apply H.block) | (apply H.cond_yes; exact rfl; (omega)))
    refine H.buildSlice (out := bytesV [0]) rfl rfl rfl rfl (by decide) (by decide) rfl rfl fun tb => ?_
    refine H.append (m := 1) (xs := bytesV acc) rfl rfl rfl rfl rfl (fun p' c' => (by repeat (first | exact .here _ _ _ | apply At.there))) (Src.slice (Rd.ofRow (.here _ _ _)) rfl) (bytesV_one _) rfl (by omega) (by omega) fun p3 c3 => ?_
    refine H.drop (x := row tb _ _) (by repeat (first | exact .here _ _ | apply Pull.there)) ?_
    repeat (first | ((apply H.assign); (iterate 3 exact rfl)) | (apply H.nil) | (apply H.in_normal))
    refine H.again (i + 1, p3, c3) (by show i + 1 ≤ _; omega) (by show Sha.padZ b.length - (i + 1) < Sha.padZ b.length - i; omega) ⟨?_, rfl, rfl, trivial⟩ rfl ?_
    · show some (Value.slice p3 (acc.length + 1) c3) = some (Value.slice p3 (b ++ [0x80] ++ List.replicate (i + 1) 0).length c3)
      rw [e3, List.length_append]; rfl
    · show _ = slc p3 (b ++ [0x80] ++ List.replicate (i + 1) 0).length c3 _ 1 (bytesV (b ++ [0x80] ++ List.replicate (i + 1) 0)) :: _
      rw [e3, List.length_append, bytesV_append]; rfl
  · have hip : i = Sha.padZ b.length := by omega
    subst hip
    have his := Sha.pad_is b.length
    have hpad : Sha.padded b = (b ++ [0x80] ++ List.replicate (Sha.padZ b.length) 0) ++ be 8 ((b.length * 8 : Nat) : Int) := rfl
    have hplen := Sha.padded_len b
    have hpmod := Sha.padded_mod b
    unfold Sha.sum
    generalize Sha.padded b = P at hpad hplen hpmod ⊢
    generalize b ++ [0x80] ++ List.replicate (Sha.padZ b.length) 0 = acc at hal hpad ⊢
    repeat (first | ((first | apply H.move | apply H.len_slice); (iterate 3 exact rfl)) | (first | apply H.seq | apply H.region))
    refine H.rem rfl rfl rfl (by decide) (tmod64 acc.length 64) rfl ?_
    repeat (first | ((first | apply H.move | apply H.assign | apply H.len_slice); (iterate 3 exact rfl)) | (first | apply H.seq | apply H.region | apply H.nil | apply H.then_normal) | ((apply H.cmp); (iterate 5 exact rfl)) | ((first | (apply H.ar; (iterate 4 exact rfl)) | (apply H.conv_int; (iterate 2 exact rfl))); (with_reducible apply wr_u64; omega); exact rfl) | (first | apply H.then_exit | apply H.exit | apply H.block | apply H.in_hit | apply H.loop_exit) | (apply H.cond_no; exact rfl; (omega)))
    generalize hN : ((b.length * 8 : Nat) : Int) = N at hpad
    refine H.know (d := 4) (u := .int .u64 N) rfl (congrArg (Value.int .u64) (by omega)) ?_
    refine H.loop (ι := Nat × Option Addr × Nat) (fun i => [(5, .int .i64 (7 - (i.1 : Int))), (3, .slice i.2.1 (acc ++ beTop 8 N i.1).length i.2.2), (4, .int .u64 N), (2, .pointer (some ⟨ob, 0, none⟩))]) (fun _ => f)
      (fun i => slc i.2.1 (acc ++ beTop 8 N i.1).length i.2.2 5 1 (bytesV (acc ++ beTop 8 N i.1)) :: row ob 54 (zb 32) :: F) (fun i => i.1 ≤ 8) (fun i => 8 - i.1) (0, p', c') (Nat.zero_le _) ⟨rfl, ?_, rfl, rfl, trivial⟩ rfl ?_ fun i hi => ?_
    · show some (Value.slice p' acc.length c') = some (Value.slice p' (acc ++ []).length c')
      rw [List.append_nil]
    · show _ = slc p' (acc ++ []).length c' _ 1 (bytesV (acc ++ [])) :: _
      rw [List.append_nil]
    obtain ⟨i, p', c'⟩ := i
    have hi : i ≤ 8 := hi
    show H _ _ _ [(5, .int .i64 (7 - (i : Int))), (3, .slice p' (acc ++ beTop 8 N i).length c'), _, _] _ (slc p' (acc ++ beTop 8 N i).length c' _ 1 (bytesV (acc ++ beTop 8 N i)) :: _) _
    have hcl : (acc ++ beTop 8 N i).length = acc.length + i := by rw [List.length_append, beTop_len]
    by_cases hlt : i < 8
    · have hexp : min (8 * (7 - (i : Int))).toNat IntKind.u64.bits = 8 * (8 - 1 - i) := by simp only [IntKind.bits]; omega
      have hsh : N.fdiv (2 ^ (min (8 * (7 - (i : Int))).toNat IntKind.u64.bits)) = N.fdiv (2 ^ (8 * (8 - 1 - i))) := by rw [hexp]
      have e3 : acc ++ beTop 8 N (i + 1) = (acc ++ beTop 8 N i) ++ [byteAt N (8 - 1 - i)] := by simp only [beTop, List.append_assoc]
      generalize acc ++ beTop 8 N i = ac at hcl e3 ⊢
      repeat (first | ((apply H.move); (iterate 3 exact rfl)) | (first | apply H.seq | apply H.region | apply H.nil | apply H.then_normal) | ((apply H.cmp); (iterate 5 exact rfl)) | ((first | (apply H.ar; (iterate 4 exact rfl)) | (apply H.conv_int; (iterate 2 exact rfl))); (first | (with_reducible apply wr_i64; omega) | (with_reducible apply wr_u64; omega)); exact rfl) | (first | apply H.skip | apply H.block) | (apply H.cond_yes; exact rfl; (omega)))
      refine H.shift rfl rfl rfl rfl (by omega) hsh rfl ?_
      refine H.conv_int rfl rfl (byteAt_wrap N (8 - 1 - i)) rfl ?_
      refine H.buildSlice (out := bytesV [byteAt N (8 - 1 - i)]) rfl rfl rfl rfl (by decide) (by decide) rfl rfl fun tb => ?_
      refine H.append (m := 1) (xs := bytesV ac) rfl rfl rfl rfl rfl (fun p' c' => (by repeat (first | exact .here _ _ _ | apply At.there))) (Src.slice (Rd.ofRow (.here _ _ _)) rfl) (bytesV_one _) rfl (by omega) (by omega) fun p3 c3 => ?_
      refine H.drop (x := row tb _ _) (by repeat (first | exact .here _ _ | apply Pull.there)) ?_
      repeat (first | ((first | apply H.move | apply H.assign); (iterate 3 exact rfl)) | (first | apply H.region | apply H.nil | apply H.then_normal) | ((apply H.ar; (iterate 4 exact rfl)); (with_reducible apply wr_i64; omega); exact rfl) | (apply H.in_normal))
      refine H.know (d := 5) (u := .int .i64 (7 - ((i + 1 : Nat) : Int))) rfl (congrArg (Value.int .i64) (by omega)) ?_
      refine H.again (i + 1, p3, c3) (by show i + 1 ≤ 8; omega) (by show 8 - (i + 1) < 8 - i; omega) ⟨rfl, ?_, rfl, rfl, trivial⟩ rfl ?_
      · show some (Value.slice p3 (ac.length + 1) c3) = some (Value.slice p3 (acc ++ beTop 8 N (i + 1)).length c3)
        rw [e3, List.length_append]; rfl
      · show _ = slc p3 (acc ++ beTop 8 N (i + 1)).length c3 _ 1 (bytesV (acc ++ beTop 8 N (i + 1))) :: _
        rw [e3, List.length_append, bytesV_append]; rfl
    · have hi8 : i = 8 := by omega
      subst hi8
      have hP : acc ++ beTop 8 N 8 = P := hpad.symm
      rw [hP]
      repeat (first | ((apply H.move); (iterate 3 exact rfl)) | (first | apply H.seq | apply H.region | apply H.nil | apply H.then_normal) | ((apply H.cmp); (iterate 5 exact rfl)) | (apply H.cond_false; exact rfl) | (first | apply H.then_exit | apply H.exit | apply H.in_hit | apply H.loop_exit))
      refine H.callR rfl rfl rfl (start_fn f _) ?_
      refine H.alloc (ls := List.replicate 8 (.int .u32 0)) rfl rfl rfl fun hb => ?_
      refine H.storeN (ls := List.replicate 8 (.int .u32 0)) (vs := Sha.start.vals) (ls' := Sha.start.vals) rfl rfl rfl (allOne_mem rfl) rfl rfl (Nat.le_refl 8) (by repeat (first | exact .here _ _ _ | apply At.there)) ?_
      repeat (first | ((apply H.assign); (iterate 3 exact rfl)) | (first | apply H.seq | apply H.region | apply H.nil | apply H.then_normal) | (apply H.block))
      have hPl : P.length ≤ 2000000000 := by omega
      obtain ⟨nb, hnb⟩ : ∃ nb, P.length = 64 * nb := ⟨P.length / 64, by omega⟩
      have hdiv : P.length / 64 = nb := by omega
      rw [hdiv]
      refine H.slc_some (.there _ (.here _ _ _)) (by omega) fun pb hp => ?_
      subst hp
      refine H.loop (ι := Nat) (fun j => [(7, .int .i64 ((64 * j : Nat) : Int)), (3, .slice (some ⟨pb, 0, none⟩) P.length c'), (6, .pointer (some ⟨hb, 0, none⟩)), (2, .pointer (some ⟨ob, 0, none⟩))]) (fun _ => f)
        (fun j => row hb 127 (Sha.blocks Sha.start P j).vals :: slc (some ⟨pb, 0, none⟩) P.length c' 5 1 (bytesV P) :: row ob 54 (zb 32) :: F) (fun j => j ≤ nb) (fun j => nb - j) 0 (Nat.zero_le _) ⟨rfl, rfl, rfl, rfl, trivial⟩ rfl rfl fun j hj => ?_
      have hj : j ≤ nb := hj
      by_cases hlt : j < nb
      · have hbk : Sha.blocks Sha.start P (j + 1) = Sha.block (Sha.blocks Sha.start P j) ((P.drop (64 * j)).take 64) := rfl
        have hcg : ∀ i, i < 64 → ((P.drop (64 * j)).take 64).getD i 0 = P.getD (64 * j + i) 0 := fun i hi => Sha.chunk_get P hi
        have hcl : ((P.drop (64 * j)).take 64).length = 64 := by rw [List.length_take, List.length_drop]; omega
        generalize (P.drop (64 * j)).take 64 = ch at hbk hcg hcl
        show H _ _ _ _ _ (row hb _ (Sha.blocks Sha.start P j).vals :: _) _
        generalize Sha.blocks Sha.start P j = sj at hbk ⊢
        repeat (first | ((first | apply H.move | apply H.len_slice); (iterate 3 exact rfl)) | (first | apply H.seq | apply H.region | apply H.nil | apply H.then_normal) | ((apply H.cmp); (iterate 5 exact rfl)) | (first | apply H.skip | apply H.block) | (apply H.cond_yes; exact rfl; (omega)))
        refine H.alloc (ls := (bytesV ch).take 0 ++ (zb 64).drop 0) rfl rfl rfl fun ib => ?_
        repeat (first | ((apply H.assign); (iterate 3 exact rfl)) | (first | apply H.seq | apply H.region | apply H.nil | apply H.then_normal) | (apply H.block))
        refine H.loop (ι := Nat) (fun i => [(9, .int .i64 (i : Int)), (8, .pointer (some ⟨ib, 0, none⟩)), (7, .int .i64 ((64 * j : Nat) : Int)), (3, .slice (some ⟨pb, 0, none⟩) P.length c'), (6, .pointer (some ⟨hb, 0, none⟩)), (2, .pointer (some ⟨ob, 0, none⟩))]) (fun _ => f)
          (fun i => row ib 129 ((bytesV ch).take i ++ (zb 64).drop i) :: row hb 127 sj.vals :: slc (some ⟨pb, 0, none⟩) P.length c' 5 1 (bytesV P) :: row ob 54 (zb 32) :: F) (fun i => i ≤ 64) (fun i => 64 - i) 0 (Nat.zero_le _) ⟨rfl, rfl, rfl, rfl, rfl, rfl, trivial⟩ rfl rfl fun i hi => ?_
        have hi : i ≤ 64 := hi
        by_cases hli : i < 64
        · have hset : SetV ((bytesV ch).take i ++ (zb 64).drop i) i (.int .u8 ((P.getD (64 * j + i) 0).toNat : Nat)) ((bytesV ch).take (i + 1) ++ (zb 64).drop (i + 1)) := by
            rw [← hcg i hli]
            exact fill_set (bytesV_get (by omega)) (by rw [bytesV_len, hcl]; rfl)
          repeat (first | ((apply H.move); (iterate 3 exact rfl)) | (first | apply H.seq | apply H.region | apply H.nil | apply H.then_normal) | ((apply H.cmp); (iterate 5 exact rfl)) | ((apply H.ar; (iterate 4 exact rfl)); (with_reducible apply wr_i64_nn; omega); exact rfl) | (first | apply H.skip | apply H.block) | (apply H.cond_yes; exact rfl; (omega)))
          refine H.index1 (i := 64 * j + i) rfl rfl rfl (by omega) (by omega) rfl ?_
          refine H.load1 rfl rfl rfl (.of (Rd.ofSlc (.there _ (.there _ (.here _ _ _))) (by omega)) (bytesV_get (by omega))) rfl ?_
          refine H.index_array (i := i) rfl rfl rfl rfl hli rfl ?_
          refine H.store1 (ls' := (bytesV ch).take (i + 1) ++ (zb 64).drop (i + 1)) rfl rfl rfl rfl (by repeat (first | exact .here _ _ _ | apply At.there)) (by rw [Nat.mul_one, Nat.zero_add]; exact hset) ?_
          repeat (first | ((first | apply H.move | apply H.assign); (iterate 3 exact rfl)) | (first | apply H.region | apply H.nil | apply H.then_normal) | ((apply H.ar; (iterate 4 exact rfl)); (with_reducible apply wr_i64_n1; omega); exact rfl) | (apply H.in_normal))
          exact H.again (i + 1) (by show i + 1 ≤ 64; omega) (by show 64 - (i + 1) < 64 - i; omega) ⟨rfl, rfl, rfl, rfl, rfl, rfl, trivial⟩ rfl rfl
        · have hi64 : i = 64 := by omega
          subst hi64
          have hfull : (bytesV ch).take 64 ++ (zb 64).drop 64 = bytesV ch := by
            rw [List.take_of_length_le (by rw [bytesV_len, hcl]; exact Nat.le_refl _)]
            show bytesV ch ++ [] = _
            rw [List.append_nil]
          rw [hfull]
          repeat (first | ((apply H.move); (iterate 3 exact rfl)) | (first | apply H.seq | apply H.region | apply H.nil | apply H.then_normal) | ((apply H.cmp); (iterate 5 exact rfl)) | (apply H.cond_false; exact rfl) | (first | apply H.then_exit | apply H.exit | apply H.in_hit | apply H.loop_exit))
          refine H.loadN (ls := sj.vals) rfl rfl rfl (Rd.ofRow (by repeat (first | exact .here _ _ _ | apply At.there))) rfl rfl ?_
          refine H.loadN (ls := bytesV ch) rfl rfl rfl (Rd.ofRow (by repeat (first | exact .here _ _ _ | apply At.there))) (by rw [bytesV_len, hcl]) rfl ?_
          refine H.callR rfl rfl rfl (block_fn f _ hcl) ?_
          refine H.storeN (ls := sj.vals) (vs := (Sha.block sj ch).vals) (ls' := (Sha.block sj ch).vals) rfl rfl rfl (allOne_mem rfl) rfl rfl (Nat.le_refl 8) (by repeat (first | exact .here _ _ _ | apply At.there)) ?_
          repeat (first | ((first | apply H.move | apply H.assign); (iterate 3 exact rfl)) | (first | apply H.region | apply H.nil | apply H.then_normal) | ((apply H.ar; (iterate 4 exact rfl)); (with_reducible apply wr_i64; omega); exact rfl) | (apply H.in_normal))
          refine H.drop (x := row ib _ _) (by repeat (first | exact .here _ _ | apply Pull.there)) ?_
          refine H.know (d := 7) (u := .int .i64 ((64 * (j + 1) : Nat) : Int)) rfl (congrArg (Value.int .i64) (by omega)) ?_
          exact H.again (j + 1) (by show j + 1 ≤ nb; omega) (by show nb - (j + 1) < nb - j; omega) ⟨rfl, rfl, rfl, rfl, trivial⟩ rfl (by rw [hbk])
      · have hjn : j = nb := by omega
        subst hjn
        generalize Sha.blocks Sha.start P j = sj
        repeat (first | ((first | apply H.move | apply H.len_slice); (iterate 3 exact rfl)) | (first | apply H.seq | apply H.region | apply H.nil | apply H.then_normal) | ((apply H.cmp); (iterate 5 exact rfl)) | (first | apply H.then_exit | apply H.exit | apply H.in_hit | apply H.loop_exit) | (apply H.cond_no; exact rfl; (omega)))
        refine H.alloc (ls := (b32 sj.out).take 0 ++ (zb 32).drop 0) rfl rfl rfl fun rb => ?_
        repeat (first | ((apply H.assign); (iterate 3 exact rfl)) | (first | apply H.seq | apply H.region | apply H.nil | apply H.then_normal) | (apply H.block))
        refine H.loop (ι := Nat) (fun i => [(11, .int .i64 (i : Int)), (10, .pointer (some ⟨rb, 0, none⟩)), (6, .pointer (some ⟨hb, 0, none⟩)), (2, .pointer (some ⟨ob, 0, none⟩))]) (fun _ => f)
          (fun i => row rb 54 ((b32 sj.out).take i ++ (zb 32).drop i) :: row hb 127 sj.vals :: slc (some ⟨pb, 0, none⟩) P.length c' 5 1 (bytesV P) :: row ob 54 (zb 32) :: F) (fun i => i ≤ 32) (fun i => 32 - i) 0 (Nat.zero_le _) ⟨rfl, rfl, rfl, rfl, trivial⟩ rfl rfl fun i hi => ?_
        have hi : i ≤ 32 := hi
        by_cases hli : i < 32
        · have hset : SetV ((b32 sj.out).take i ++ (zb 32).drop i) i (.int .u8 ((sj.out i).toNat : Nat)) ((b32 sj.out).take (i + 1) ++ (zb 32).drop (i + 1)) := fill_set (b32_get _ hli) rfl
          have hgv := Sha.S8.get_vals sj (i := i / 4) (by omega)
          unfold Sha.S8.out at hset
          repeat (first | ((apply H.move); (iterate 3 exact rfl)) | (first | apply H.seq | apply H.region | apply H.nil | apply H.then_normal) | ((apply H.cmp); (iterate 5 exact rfl)) | (first | apply H.skip | apply H.block) | (apply H.cond_yes; exact rfl; (omega)))
          refine H.quo rfl rfl rfl (by decide) (z := ((i / 4 : Nat) : Int)) (by rw [show (4 : Int) = ((4 : Nat) : Int) from rfl, tdiv64, wr_i64 (by omega)]) rfl ?_
          refine H.index_array (i := i / 4) rfl rfl rfl rfl (by omega) rfl ?_
          refine H.load1 rfl rfl rfl (.of (Rd.ofRow (by repeat (first | exact .here _ _ _ | apply At.there))) (by rw [Nat.mul_one]; exact hgv)) rfl ?_
          repeat (((apply H.move); (iterate 3 exact rfl)))
          refine H.rem rfl rfl rfl (by decide) (tmod64 i 4) rfl ?_
          repeat (((first | (apply H.ar; (iterate 4 exact rfl)) | (apply H.conv_int; (iterate 2 exact rfl))); (first | (with_reducible apply wr_i64; omega) | (with_reducible apply wr_u64; omega)); exact rfl))
          refine H.know (d := 76) (u := .int .u64 ((24 - 8 * (i % 4) : Nat) : Int)) rfl (congrArg (Value.int .u64) (by omega)) ?_
          refine H.shift rfl rfl rfl (u32_shr _ _ (by omega)) (by omega) rfl rfl ?_
          refine H.conv_int rfl rfl (u8_ofU32 _) rfl ?_
          refine H.index_array (i := i) rfl rfl rfl rfl hli rfl ?_
          refine H.store1 (ls' := (b32 sj.out).take (i + 1) ++ (zb 32).drop (i + 1)) rfl rfl rfl rfl (by repeat (first | exact .here _ _ _ | apply At.there)) (by rw [Nat.mul_one, Nat.zero_add]; exact hset) ?_
          repeat (first | ((first | apply H.move | apply H.assign); (iterate 3 exact rfl)) | (first | apply H.region | apply H.nil | apply H.then_normal) | ((apply H.ar; (iterate 4 exact rfl)); (with_reducible apply wr_i64_n1; omega); exact rfl) | (apply H.in_normal))
          exact H.again (i + 1) (by show i + 1 ≤ 32; omega) (by show 32 - (i + 1) < 32 - i; omega) ⟨rfl, rfl, rfl, rfl, trivial⟩ rfl rfl
        · have hi32 : i = 32 := by omega
          subst hi32
          repeat (first | ((apply H.move); (iterate 3 exact rfl)) | (first | apply H.seq | apply H.region | apply H.nil | apply H.then_normal) | ((apply H.cmp); (iterate 5 exact rfl)) | (apply H.cond_false; exact rfl) | (first | apply H.then_exit | apply H.exit | apply H.in_hit | apply H.loop_exit))
          refine H.loadN (ls := b32 sj.out) rfl rfl rfl (Rd.ofRow (by repeat (first | exact .here _ _ _ | apply At.there))) rfl rfl ?_
          refine H.storeN (ls := zb 32) (vs := b32 sj.out) (ls' := b32 sj.out) rfl rfl rfl (allOne_mem rfl) rfl rfl (Nat.le_refl 32) (by repeat (first | exact .here _ _ _ | apply At.there)) ?_
          repeat (first | (first | apply H.nil | apply H.then_normal) | (apply H.ret))
          refine H.drop (.here _ _) ?_
          refine H.drop (.here _ _) ?_
          refine H.drop (.here _ _) ?_
          exact H.retD rfl rfl rfl (Rd.ofRow (by repeat (first | exact .here _ _ _ | apply At.there))) rfl (fun _ s => s.drop (.here _ _)) ⟨rfl, rfl, rfl⟩
end
end Go.Proofs.Ytcaofnfemogleaa
