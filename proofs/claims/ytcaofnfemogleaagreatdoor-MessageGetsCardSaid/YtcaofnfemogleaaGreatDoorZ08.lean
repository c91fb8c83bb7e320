/- Parts of the proof, one behind the other, each under its own heading. No conditions. -/
import Derived.Test.YtcaofnfemogleaaGreatDoorZ07
import Derived.Test.YtcaofnfemogleaaGreatDoorRows
import Derived.Test.YtcaofnfemogleaaGreatDoorCards
import Derived.Test.YtcaofnfemogleaaGreatDoorTie
/- Layer 8, plain: what is put of a message is got, the same; what is got is put as it stood; no message's bytes begin another one's. No program in sight. -/
namespace Go.Proofs.YtcaofnfemogleaaGreatDoor
set_option linter.unusedSectionVars false
set_option linter.unusedSimpArgs false
set_option linter.unusedVariables false
open Go
/-! ### Cells that are told apart by eqC alone -/
def kdV : Value → Value
  | .int k _ => .int k 0
  | .string _ => .bool true
  | .bool _ => .bool false
  | v => v
theorem eqv_eq {a b : Value} (h : eqv a b = true) (hk : kdV a = kdV b) : a = b := by
  cases a with
  | bool x =>
    cases b <;> simp [eqv] at h
    subst h; rfl
  | int k x =>
    cases b with
    | int l y =>
      simp [eqv] at h
      simp [kdV] at hk
      subst h; subst hk; rfl
    | _ => simp [eqv] at h
  | string x =>
    cases b with
    | string y =>
      simp only [eqv] at h
      rw [beq_toListBytes, ByteArray.toList_eq, ByteArray.toList_eq, beq_iff_eq] at h
      rw [show x = y from ByteArray.ext (Array.ext' h)]
    | _ => simp [eqv] at h
  | _ => simp [eqv] at h
theorem eqC_eq : ∀ {a b : List Value}, eqC a b = true → a.map kdV = b.map kdV → a = b
  | [], [], _, _ => rfl
  | [], _ :: _, h, _ => by simp [eqC] at h
  | _ :: _, [], h, _ => by simp [eqC] at h
  | x :: xs, y :: ys, h, hk => by
    simp only [eqC, Bool.and_eq_true] at h
    simp only [List.map_cons, List.cons.injEq] at hk
    rw [eqv_eq h.1 hk.1, eqC_eq h.2 hk.2]
theorem u8_inj {a b : UInt8} (h : Value.int .u8 (a.toNat : Nat) = Value.int .u8 (b.toNat : Nat)) : a = b := by
  simp only [Value.int.injEq, true_and] at h
  exact UInt8.toNat_inj.1 (by omega)
theorem bytesV_inj : ∀ {a b : List UInt8}, bytesV a = bytesV b → a = b
  | [], [], _ => rfl
  | [], _ :: _, h => by simp [bytesV] at h
  | _ :: _, [], h => by simp [bytesV] at h
  | x :: xs, y :: ys, h => by
    simp only [bytesV, List.map_cons, List.cons.injEq] at h
    rw [u8_inj h.1, bytesV_inj h.2]
theorem b32_L {a b : Nat → UInt8} (h : b32 a = b32 b) : b32L a = b32L b := bytesV_inj (by rw [← b32_bytes, ← b32_bytes]; exact h)
theorem eq32_iff {a b : Nat → UInt8} : eqC (b32 a) (b32 b) = true ↔ b32 a = b32 b :=
  ⟨fun h => eqC_eq h rfl, fun h => by rw [h]; exact eq32_refl b⟩
theorem v11_iff {a b : Nat → Int} : v11 a = v11 b ↔ ∀ i, i < 11 → a i = b i := by
  constructor
  · intro h i hi
    have h1 := v11_get a hi
    have h2 := v11_get b hi
    rw [h, h2] at h1
    simp only [Option.some.injEq, Value.int.injEq, true_and] at h1
    exact h1.symm
  · intro h
    unfold v11
    rw [h 0 (by decide), h 1 (by decide), h 2 (by decide), h 3 (by decide), h 4 (by decide), h 5 (by decide), h 6 (by decide), h 7 (by decide), h 8 (by decide), h 9 (by decide), h 10 (by decide)]
theorem eqv11_iff {a b : Nat → Int} : eqC (v11 a) (v11 b) = true ↔ v11 a = v11 b :=
  ⟨fun h => eqC_eq h rfl, fun h => by rw [h]; exact eqC_refl rfl⟩
theorem eqReq_iff {a b : Req} : eqC a.vals b.vals = true ↔ a.vals = b.vals :=
  ⟨fun h => eqC_eq h rfl, fun h => by rw [h]; exact eqC_refl rfl⟩
theorem Bod.E.refl (a : Bod) : Bod.E a a := ⟨rfl, rfl, rfl, rfl, rfl, rfl⟩
theorem Bod.E.symm {a b : Bod} (h : Bod.E a b) : Bod.E b a := ⟨h.1.symm, h.2.1.symm, h.2.2.1.symm, h.2.2.2.1.symm, h.2.2.2.2.1.symm, h.2.2.2.2.2.symm⟩
theorem Bod.E.trans {a b c : Bod} (h : Bod.E a b) (g : Bod.E b c) : Bod.E a c := ⟨h.1.trans g.1, h.2.1.trans g.2.1, h.2.2.1.trans g.2.2.1, h.2.2.2.1.trans g.2.2.2.1, h.2.2.2.2.1.trans g.2.2.2.2.1, h.2.2.2.2.2.trans g.2.2.2.2.2⟩
theorem Bod.eqB_iff {a b : Bod} : Bod.eqB a b = true ↔ Bod.E a b := by
  unfold Bod.eqB Bod.E
  rw [Bool.and_eq_true, Bool.and_eq_true, Bool.and_eq_true, Bool.and_eq_true, Bool.and_eq_true, decide_eq_true_eq, decide_eq_true_eq, decide_eq_true_eq, decide_eq_true_eq, eqReq_iff, eq32_iff]
  constructor
  · rintro ⟨⟨⟨⟨⟨h1, h2⟩, h3⟩, h4⟩, h5⟩, h6⟩
    exact ⟨UInt8.toNat_inj.1 (by omega), h2, h3, h4, h5, h6⟩
  · rintro ⟨h1, h2, h3, h4, h5, h6⟩
    exact ⟨⟨⟨⟨⟨by rw [h1], h2⟩, h3⟩, h4⟩, h5⟩, h6⟩
/-- Messages that nobody tells apart. -/
def Msg.E (a b : Msg) : Prop := a.origin = b.origin ∧ a.number = b.number ∧ v11 a.deps = v11 b.deps ∧ Bod.E a.body b.body ∧ b32 a.tag = b32 b.tag
theorem Msg.E.refl (a : Msg) : Msg.E a a := ⟨rfl, rfl, rfl, Bod.E.refl _, rfl⟩
theorem Msg.E.symm {a b : Msg} (h : Msg.E a b) : Msg.E b a := ⟨h.1.symm, h.2.1.symm, h.2.2.1.symm, h.2.2.2.1.symm, h.2.2.2.2.symm⟩
theorem Msg.E.trans {a b c : Msg} (h : Msg.E a b) (g : Msg.E b c) : Msg.E a c := ⟨h.1.trans g.1, h.2.1.trans g.2.1, h.2.2.1.trans g.2.2.1, h.2.2.2.1.trans g.2.2.2.1, h.2.2.2.2.trans g.2.2.2.2⟩
theorem Msg.eqB_iff {a b : Msg} : Msg.eqB a b = true ↔ Msg.E a b := by
  unfold Msg.eqB Msg.E
  rw [Bool.and_eq_true, Bool.and_eq_true, Bool.and_eq_true, Bool.and_eq_true, decide_eq_true_eq, decide_eq_true_eq, eqv11_iff, Bod.eqB_iff, eq32_iff]
/-! ### What the same bodies, and messages, have in common -/
theorem Req.vals_inj {a b : Req} (h : a.vals = b.vals) : a.client = b.client ∧ a.time = b.time ∧ a.kind = b.kind ∧ a.key = b.key ∧ a.val = b.val ∧ a.old = b.old ∧ a.to = b.to ∧ a.amount = b.amount ∧ b32 a.tag = b32 b.tag := by
  unfold Req.vals at h
  have h1 := List.append_inj h rfl
  have h2 := h1.1
  simp only [List.cons.injEq, Value.int.injEq, Value.string.injEq, true_and, and_true] at h2
  obtain ⟨a1, a2, a3, a4, a5, a6, a7, a8⟩ := h2
  exact ⟨a1, a2, UInt8.toNat_inj.1 (by omega), a4, a5, a6, a7, a8, h1.2⟩
theorem Req.bytes_congr {a b : Req} (h : a.vals = b.vals) : a.bytes = b.bytes ∧ (a.asked ↔ b.asked) ∧ b32L a.tag = b32L b.tag := by
  obtain ⟨h1, h2, h3, h4, h5, h6, h7, h8, h9⟩ := Req.vals_inj h
  unfold Req.bytes Req.head Req.asked
  rw [h1, h2, h3, h4, h5, h6, h7, h8]
  exact ⟨rfl, Iff.rfl, b32_L h9⟩
theorem Bod.put_congr {a b : Bod} (h : Bod.E a b) : a.put = b.put := by
  obtain ⟨h1, h2, h3, h4, h5, h6⟩ := h
  obtain ⟨r1, _, r3⟩ := Req.bytes_congr h4
  have h7 := b32_L h6
  unfold Bod.put
  rw [h1]
  unfold Bod.putK
  rw [h2, h3, h5, r1, r3, h7]
theorem Bod.mayK_congr {a b : Bod} (h : Bod.E a b) (k : Nat) : a.mayK k = b.mayK k := by
  obtain ⟨h1, h2, h3, h4, h5, h6⟩ := h
  obtain ⟨_, r2, _⟩ := Req.bytes_congr h4
  unfold Bod.mayK
  rw [h2, h3, h5, decide_eq_decide.2 r2]
theorem Bod.own_congr {a b : Bod} (h : Bod.E a b) : Bod.E a.own b.own := by
  obtain ⟨h1, h2, h3, h4, h5, h6⟩ := h
  unfold Bod.own
  rw [h1]
  generalize b.kind.toNat = k
  match k with
  | 0 => exact ⟨h1, rfl, rfl, rfl, rfl, rfl⟩
  | 1 => exact ⟨h1, h2, rfl, h4, rfl, rfl⟩
  | 2 => exact ⟨h1, h2, h3, rfl, rfl, rfl⟩
  | 3 => exact ⟨h1, h2, rfl, rfl, rfl, rfl⟩
  | 4 => exact ⟨h1, h2, rfl, rfl, h5, rfl⟩
  | 5 => exact ⟨h1, h2, rfl, rfl, rfl, rfl⟩
  | 6 => exact ⟨h1, rfl, h3, rfl, rfl, h6⟩
  | k + 7 => exact ⟨h1, rfl, rfl, rfl, rfl, rfl⟩
theorem Bod.may_congr {a b : Bod} (h : Bod.E a b) : a.may = b.may := by
  have h0 := Bod.own_congr h
  unfold Bod.may
  rw [Bod.mayK_congr h, h.1, h.2.1, Bool.eq_iff_iff.2 (Bod.eqB_iff.trans (Iff.trans ⟨fun g => h0.symm.trans (g.trans h), fun g => h0.trans (g.trans h.symm)⟩ Bod.eqB_iff.symm))]
theorem depsB_congr {a b : Nat → Int} : ∀ n, (∀ i, i < n → a i = b i) → depsB a n = depsB b n
  | 0, _ => rfl
  | n + 1, h => by
    unfold depsB
    rw [depsB_congr n fun i hi => h i (by omega), h n (by omega)]
theorem maxTo_congr {a b : Nat → Int} : ∀ n, (∀ i, i ≤ n → a i = b i) → maxTo a n = maxTo b n
  | 0, h => h 0 (Nat.le_refl _)
  | n + 1, h => by
    unfold maxTo
    rw [maxTo_congr n fun i hi => h i (by omega), h (n + 1) (Nat.le_refl _)]
/-- The same but for the tag. -/
def Msg.E0 (a b : Msg) : Prop := a.origin = b.origin ∧ a.number = b.number ∧ v11 a.deps = v11 b.deps ∧ Bod.E a.body b.body
theorem Msg.E.e0 {a b : Msg} (h : Msg.E a b) : Msg.E0 a b := ⟨h.1, h.2.1, h.2.2.1, h.2.2.2.1⟩
theorem Msg.may_congr {a b : Msg} (h : Msg.E0 a b) : a.may = b.may := by
  obtain ⟨h1, h2, h3, h4⟩ := h
  have h5 := v11_iff.1 h3
  unfold Msg.may
  rw [Bod.may_congr h4]
  have e : a.outer ↔ b.outer := by
    unfold Msg.outer
    rw [h1, h2, maxTo_congr 10 fun i hi => h5 i (by omega)]
    constructor
    · rintro ⟨a1, a2, a3, a4, a5, a6⟩
      exact ⟨a1, a2, a3, a4, by rw [← h5 _ (by omega)]; exact a5, a6⟩
    · rintro ⟨a1, a2, a3, a4, a5, a6⟩
      exact ⟨a1, a2, a3, a4, by rw [h5 _ (by omega)]; exact a5, a6⟩
  rw [decide_eq_decide.2 e]
theorem Msg.tagged_congr {a b : Msg} (h : Msg.E0 a b) : a.tagged = b.tagged := by
  obtain ⟨h1, h2, h3, h4⟩ := h
  unfold Msg.tagged
  rw [h1, h4.1, Bod.put_congr h4, depsB_congr 11 (v11_iff.1 h3)]
theorem Msg.bytes_congr {a b : Msg} (h : Msg.E0 a b) : a.bytes = b.bytes := by
  unfold Msg.bytes
  rw [Msg.may_congr h, Msg.tagged_congr h]
theorem Msg.putB_congr {a b : Msg} (h : Msg.E a b) : a.putB = b.putB := by
  unfold Msg.putB
  rw [Msg.may_congr h.e0, Msg.tagged_congr h.e0, h.2.1, b32_L h.2.2.2.2]
theorem Msg.bytes_may {m : Msg} (hm : m.may = true) : m.bytes = m.tagged := by unfold Msg.bytes; rw [if_pos hm]
/-! ### What is put is got -/
theorem req_backG {q : Req} (h : q.Ok) (ha : q.asked) {mk mv : Nat} (hmk : 32 ≤ mk ∧ mk < 65536) (hmv : 128 ≤ mv ∧ mv < 65536) (r : List UInt8) :
    ((⟨q.bytes ++ b32L q.tag ++ r, false⟩ : Cs).req mk mv).vals = q.vals ∧ (⟨q.bytes ++ b32L q.tag ++ r, false⟩ : Cs).reqS mk mv = ⟨r, false⟩ := by
  obtain ⟨ht, hm⟩ := h
  obtain ⟨c1, c2, _, _, ⟨k1, k2⟩, k3, k4⟩ := ha
  have e : q.bytes ++ b32L q.tag ++ r = b8 q.client :: q.kind :: (be 8 q.time ++ (be 8 q.amount ++ (textB q.key ++ (textB q.val ++ (textB q.old ++ (textB q.to ++ (b32L q.tag ++ r))))))) := by
    unfold Req.bytes Req.head
    simp only [List.append_assoc, List.cons_append, List.nil_append]
    rfl
  rw [e]
  unfold Cs.req Cs.reqS
  dsimp only
  have t1 := Cs.text_app (s := q.key) (most := mk) (r := textB q.val ++ (textB q.old ++ (textB q.to ++ (b32L q.tag ++ r)))) (by omega) hmk.2
  have t2 := Cs.text_app (s := q.val) (most := mv) (r := textB q.old ++ (textB q.to ++ (b32L q.tag ++ r))) (by omega) hmv.2
  have t3 := Cs.text_app (s := q.old) (most := mv) (r := textB q.to ++ (b32L q.tag ++ r)) (by omega) hmv.2
  have t4 := Cs.text_app (s := q.to) (most := mk) (r := b32L q.tag ++ r) (by omega) hmk.2
  rw [Cs.num1_b, Cs.skip1_b, Cs.skip1_b, Cs.skip_app (be_len _ _), Cs.skip_app (be_len _ _), t1.1, t1.2, t2.1, t2.2, t3.1, t3.2, t4.1, t4.2, Cs.num8_be ht, Cs.num8_be hm]
  constructor
  · unfold Cs.byte
    rw [Cs.num1_b]
    unfold Req.vals
    rw [Cs.hash_app, baOf_data, baOf_data, baOf_data, baOf_data, b8_small (by omega)]
    simp
  · exact Cs.skip_app (a := b32L q.tag) rfl
section
variable (mk mv : Nat) (k8 : UInt8) (s : Cs)
theorem bodyK_1 : s.bodyK mk mv k8 1 = ({ Bod.zero k8 with view := (s.num 8 : Nat), req := (s.skip 8).req mk mv }, (s.skip 8).reqS mk mv) := rfl
theorem bodyK_2 : s.bodyK mk mv k8 2 = ({ Bod.zero k8 with view := (s.num 8 : Nat), k := ((s.skip 8).num 8 : Nat) }, (s.skip 8).skip 8) := rfl
theorem bodyK_3 : s.bodyK mk mv k8 3 = ({ Bod.zero k8 with view := (s.num 8 : Nat) }, s.skip 8) := rfl
theorem bodyK_4 : s.bodyK mk mv k8 4 = ({ Bod.zero k8 with view := (s.num 8 : Nat), q := (Cs.pairs ((s.skip 8).num 1) ((s.skip 8).skip 1) []).1 }, (Cs.pairs ((s.skip 8).num 1) ((s.skip 8).skip 1) []).2) := rfl
theorem bodyK_5 : s.bodyK mk mv k8 5 = ({ Bod.zero k8 with view := (s.num 8 : Nat) }, s.skip 8) := rfl
theorem bodyK_6 : s.bodyK mk mv k8 6 = ({ Bod.zero k8 with k := (s.num 8 : Nat), dig := (s.skip 8).hash }, (s.skip 8).skip 32) := rfl
end
theorem body_backG {x : Bod} (hx : x.Ok) (hm : x.mayK x.kind.toNat = true) {mk mv : Nat} (hmk : 32 ≤ mk ∧ mk < 65536) (hmv : 128 ≤ mv ∧ mv < 65536) (r : List UInt8) : Bod.E (((⟨x.put ++ r, false⟩ : Cs).bodyK mk mv x.kind x.kind.toNat).1) x.own ∧ ((⟨x.put ++ r, false⟩ : Cs).bodyK mk mv x.kind x.kind.toNat).2 = ⟨r, false⟩ := by
  obtain ⟨hv, hk, hr⟩ := hx
  unfold Bod.put Bod.own
  generalize x.kind.toNat = k at hm
  match k, hm with
  | 0, hm => exact absurd hm (by simp [Bod.mayK])
  | k + 7, hm => exact absurd hm (by simp [Bod.mayK])
  | 1, hm =>
    have ha : x.req.asked := of_decide_eq_true hm
    have e : x.putK 1 ++ r = be 8 x.view ++ (x.req.bytes ++ b32L x.req.tag ++ r) := by simp [Bod.putK]
    have h1 := req_backG hr ha hmk hmv r
    rw [e, bodyK_1, Cs.skip_app (be_len _ _)]
    dsimp only
    refine ⟨⟨rfl, Cs.num8_be hv, rfl, ?_, rfl, rfl⟩, ?_⟩
    · exact h1.1
    · with_reducible exact h1.2
  | 2, _ =>
    have e : x.putK 2 ++ r = be 8 x.view ++ (be 8 x.k ++ r) := by simp [Bod.putK]
    rw [e, bodyK_2, Cs.skip_app (be_len _ _), Cs.skip_app (be_len _ _)]
    exact ⟨⟨rfl, Cs.num8_be hv, Cs.num8_be hk, rfl, rfl, rfl⟩, rfl⟩
  | 3, _ =>
    have e : x.putK 3 ++ r = be 8 x.view ++ r := by simp [Bod.putK]
    rw [e, bodyK_3, Cs.skip_app (be_len _ _)]
    exact ⟨⟨rfl, Cs.num8_be hv, rfl, rfl, rfl, rfl⟩, rfl⟩
  | 5, _ =>
    have e : x.putK 5 ++ r = be 8 x.view ++ r := by simp [Bod.putK]
    rw [e, bodyK_5, Cs.skip_app (be_len _ _)]
    exact ⟨⟨rfl, Cs.num8_be hv, rfl, rfl, rfl, rfl⟩, rfl⟩
  | 6, _ =>
    have e : x.putK 6 ++ r = be 8 x.k ++ (b32L x.dig ++ r) := by simp [Bod.putK]
    have h1 : (⟨b32L x.dig ++ r, false⟩ : Cs).skip 32 = ⟨r, false⟩ := Cs.skip_app (a := b32L x.dig) rfl
    rw [e, bodyK_6, Cs.skip_app (be_len _ _), h1]
    exact ⟨⟨rfl, rfl, Cs.num8_be hk, rfl, rfl, Cs.hash_app⟩, rfl⟩
  | 4, hm =>
    simp only [Bod.mayK, Bool.and_eq_true, decide_eq_true_eq] at hm
    have hlen := quo_len x.q 0 (by omega) hm.2.1
    have e : x.putK 4 ++ r = be 8 x.view ++ (b8 x.q.length :: (x.q.flatMap pairB ++ r)) := by simp [Bod.putK]
    have hn : (b8 x.q.length).toNat = x.q.length := by have := b8_small (z := (x.q.length : Int)) (by omega); omega
    have hp := pairs_back x.q 0 r [] (Int.le_refl 0) hm.2.1
    rw [e, bodyK_4, Cs.skip_app (be_len _ _), Cs.num1_b, Cs.skip1_b, hn, hp]
    exact ⟨⟨rfl, Cs.num8_be hv, rfl, rfl, rfl, rfl⟩, rfl⟩
theorem body_backR {x : Bod} (hx : x.Ok) (hm : x.mayK x.kind.toNat = true) (r : List UInt8) : Bod.E (((⟨x.put ++ r, false⟩ : Cs).bodyK 32 128 x.kind x.kind.toNat).1) x.own ∧ ((⟨x.put ++ r, false⟩ : Cs).bodyK 32 128 x.kind x.kind.toNat).2 = ⟨r, false⟩ :=
  body_backG hx hm (by decide) (by decide) r
theorem deps_back (d : Nat → Int) : ∀ n (r : List UInt8), (∀ i, i < n → 0 ≤ d i ∧ d i ≤ 18446744073709551615) → ((⟨depsB d n ++ r, false⟩ : Cs).deps n).2 = ⟨r, false⟩ ∧ ∀ i, i < n → ((⟨depsB d n ++ r, false⟩ : Cs).deps n).1 i = d i
  | 0, r, _ => ⟨rfl, fun i hi => by omega⟩
  | n + 1, r, h => by
    have e : depsB d (n + 1) ++ r = depsB d n ++ (be 8 (d n) ++ r) := by simp [depsB]
    rw [e]
    obtain ⟨h1, h2⟩ := deps_back d n (be 8 (d n) ++ r) fun i hi => h i (by omega)
    constructor
    · show (Cs.deps _ n).2.skip 8 = _
      rw [h1, Cs.skip_app (be_len _ _)]
    · intro i hi
      show setD (Cs.deps _ n).1 n ((Cs.deps _ n).2.num 8 : Nat) i = _
      rw [h1, Cs.num8_be (h n (by omega))]
      unfold setD
      by_cases hi2 : i = n
      · rw [if_pos hi2, hi2]
      · rw [if_neg hi2, h2 i (by omega)]
theorem Msg.may_facts {m : Msg} (hm : m.may = true) (ht : m.Typ) : (1 ≤ m.origin ∧ m.origin ≤ 11) ∧ (1 ≤ m.number ∧ m.number ≤ 65536) ∧ (∀ i, i < 11 → 0 ≤ m.deps i ∧ m.deps i ≤ 65536) ∧ Bod.E m.body.own m.body ∧ m.body.mayK m.body.kind.toNat = true := by
  obtain ⟨a1, a2, a3, a4, a5, a6⟩ := Msg.may_outer hm
  obtain ⟨b1, b2, b3⟩ := Bod.may_spec (Msg.may_body hm)
  exact ⟨⟨a1, a2⟩, ⟨a3, a4⟩, fun i hi => ⟨ht.2 i hi, (maxTo_le m.deps 65536 10).1 a6 i (by omega)⟩, Bod.eqB_iff.1 b1, b3⟩
theorem kind_range {x : Bod} (hm : x.mayK x.kind.toNat = true) : 1 ≤ x.kind.toNat ∧ x.kind.toNat ≤ 6 := by
  generalize x.kind.toNat = k at hm
  match k, hm with
  | 0, hm => exact absurd hm (by simp [Bod.mayK])
  | k + 7, hm => exact absurd hm (by simp [Bod.mayK])
  | 1, _ => decide
  | 2, _ => decide
  | 3, _ => decide
  | 4, _ => decide
  | 5, _ => decide
  | 6, _ => decide
/-- What is read of what is tagged, and more. -/
theorem tagged_parse {m : Msg} (hm : m.may = true) (ht : m.Typ) (r : List UInt8) :
    orgOf (m.tagged ++ r) = m.origin ∧ v11 (Cs.headD (m.tagged ++ r)) = v11 m.deps ∧ kindOf (m.tagged ++ r) = m.body.kind ∧ Bod.E (bodyOf (m.tagged ++ r)).1 m.body ∧ (bodyOf (m.tagged ++ r)).2 = ⟨r, false⟩ := by
  obtain ⟨ho, hn, hd, he, hk⟩ := Msg.may_facts hm ht
  have e : m.tagged ++ r = b8 m.origin :: (depsB m.deps 11 ++ (m.body.kind :: (m.body.put ++ r))) := by simp [Msg.tagged]
  have hdb := deps_back m.deps 11 (m.body.kind :: (m.body.put ++ r)) fun i hi => ⟨(hd i hi).1, by have := (hd i hi).2; omega⟩
  have hS : Cs.headS (m.tagged ++ r) = ⟨m.body.kind :: (m.body.put ++ r), false⟩ := by
    unfold Cs.headS
    rw [e, Cs.skip1_b]
    exact hdb.1
  have hK : kindOf (m.tagged ++ r) = m.body.kind := by
    unfold kindOf Cs.byte
    rw [hS, Cs.num1_b]
    simp
  have hB : bodyOf (m.tagged ++ r) = (⟨m.body.put ++ r, false⟩ : Cs).bodyK 32 128 m.body.kind m.body.kind.toNat := by
    unfold bodyOf
    rw [hK, hS, Cs.skip1_b]
  have hb := body_backR ht.1 hk r
  rw [← hB] at hb
  refine ⟨?_, ?_, hK, hb.1.trans he, hb.2⟩
  · unfold orgOf
    rw [e, Cs.num1_b]
    exact b8_small (by omega)
  · refine v11_iff.2 fun i hi => ?_
    unfold Cs.headD
    rw [e, Cs.skip1_b]
    exact hdb.2 i hi
/-- No message's bytes begin another one's. -/
theorem tagged_cancel {m k : Msg} (hm : m.may = true) (ht : m.Typ) (hk : k.may = true) (htk : k.Typ) {r s : List UInt8} (h : m.tagged ++ r = k.tagged ++ s) :
    r = s ∧ m.origin = k.origin ∧ v11 m.deps = v11 k.deps ∧ Bod.E m.body k.body := by
  obtain ⟨a1, a2, a3, a4, a5⟩ := tagged_parse hm ht r
  obtain ⟨b1, b2, b3, b4, b5⟩ := tagged_parse hk htk s
  rw [h] at a1 a2 a3 a4 a5
  rw [a5] at b5
  simp only [Cs.mk.injEq, and_true] at b5
  exact ⟨b5, a1.symm.trans b1, a2.symm.trans b2, a4.symm.trans b4⟩
theorem of_tagged {m : Msg} (hm : m.may = true) (ht : m.Typ) (t : Nat → UInt8) : ofOk m.origin m.number m.tagged t = true ∧ Msg.E0 (msgOf m.number m.tagged t) m := by
  have h := tagged_parse hm ht []
  rw [List.append_nil] at h
  obtain ⟨a1, a2, a3, a4, a5⟩ := h
  obtain ⟨_, _, _, _, hk⟩ := Msg.may_facts hm ht
  have hE : Msg.E0 (msgOf m.number m.tagged t) m := by
    unfold msgOf Msg.E0
    dsimp only
    exact ⟨a1, rfl, a2, a4⟩
  refine ⟨?_, hE⟩
  have hby : (msgOf m.number m.tagged t).bytes = m.tagged := by
    rw [Msg.bytes_congr hE, Msg.bytes_may hm]
  have h1 : kOk m.tagged = true := by
    unfold kOk
    rw [a3]
    exact decide_eq_true (kind_range hk)
  unfold ofOk
  rw [h1, decide_eq_true a1, a5, decide_eq_true hby]
  decide
theorem msgOf_tag (n : Int) (b : List UInt8) (t : Nat → UInt8) : (msgOf n b t).tag = t := rfl
theorem msgOf_ok (n : Int) (b : List UInt8) (t : Nat → UInt8) : (msgOf n b t).body.Ok ∧ (msgOf n b t).body.q.length ≤ 1000 := by
  unfold msgOf bodyOf
  dsimp only
  exact ⟨bodyK_ok _ _ _, bodyK_q _ _ _⟩
theorem of_same {m : Msg} (hm : m.may = true) (ht : m.Typ) : ofE m.origin m.number m.tagged m.tag = 0 ∧ ofR m.origin m.number m.tagged m.tag = msgOf m.number m.tagged m.tag ∧ Msg.eqB (msgOf m.number m.tagged m.tag) m = true := by
  obtain ⟨h1, h2⟩ := of_tagged hm ht m.tag
  refine ⟨?_, ?_, ?_⟩
  · unfold ofE; rw [if_pos h1]
  · unfold ofR; rw [if_pos h1]
  · rw [Msg.eqB_iff]
    exact ⟨h2.1, h2.2.1, h2.2.2.1, h2.2.2.2, by rw [msgOf_tag]⟩
theorem putB_may {m : Msg} (hm : m.may = true) : m.putB = be 8 m.number ++ m.tagged ++ b32L m.tag := by unfold Msg.putB; exact if_pos hm
theorem tagged_pos (m : Msg) : 1 ≤ m.tagged.length := by
  unfold Msg.tagged
  simp only [List.length_append, List.length_cons, List.length_nil]
  omega
theorem putB_len {m : Msg} (hm : m.may = true) : m.putB.length = m.tagged.length + 40 := by
  rw [putB_may hm, List.length_append, List.length_append, be_len]
  show 8 + _ + 32 = _
  omega
theorem putB_pos {m : Msg} : (0 < m.putB.length) ↔ m.may = true := by
  by_cases hm : m.may = true
  · rw [putB_len hm]
    exact ⟨fun _ => hm, fun _ => by omega⟩
  · unfold Msg.putB
    rw [if_neg hm]
    exact ⟨fun h => by simp at h, fun h => absurd h hm⟩
/-- What is put is got, the same. -/
theorem get_put {m : Msg} (hm : m.may = true) (ht : m.Typ) : getE m.putB = 0 ∧ Msg.E (getR m.putB) m := by
  have hl := putB_len hm
  have hp := tagged_pos m
  have e := putB_may hm
  rw [List.append_assoc] at e
  obtain ⟨ho, hn, _⟩ := Msg.may_facts hm ht
  have e1 : (⟨m.putB, false⟩ : Cs).skip 8 = ⟨m.tagged ++ b32L m.tag, false⟩ := by rw [e, Cs.skip_app (be_len _ _)]
  have h40 : m.putB.length - 40 = m.tagged.length := by omega
  have e2 : ownOf m.putB = m.tagged := by
    unfold ownOf
    rw [e1, h40, Cs.raw_app rfl]
  have e3 : numOf m.putB = m.number := by
    unfold numOf
    rw [e, Cs.num8_be (by omega)]
  have e4 : b32 (tagOf m.putB) = b32 m.tag := by
    unfold tagOf
    rw [e1, h40, Cs.skip_app rfl]
    have := Cs.hash_app (t := m.tag) (r := [])
    rwa [List.append_nil] at this
  have e5 : fstOf m.putB = m.origin := by
    unfold fstOf
    rw [e2]
    show ((((b8 m.origin :: _).getD 0 0).toNat : Nat) : Int) = _
    exact b8_small (by omega)
  obtain ⟨h1, h2⟩ := of_tagged hm ht (tagOf m.putB)
  have h41 : 41 ≤ m.putB.length := by omega
  unfold getE getR
  rw [if_pos h41, if_pos h41, e2, e3, e5]
  unfold ofE ofR
  rw [if_pos h1, if_pos h1]
  exact ⟨rfl, h2.1, h2.2.1, h2.2.2.1, h2.2.2.2, e4⟩
/-! ### What is got is put as it stood -/
theorem byte_ofNat (n : Nat) (b : UInt8) : byteAt ((n * 256 + b.toNat : Nat) : Int) 0 = b := by
  refine UInt8.toNat_inj.1 ?_
  rw [byteAt_nat]
  have := b.toNat_lt
  rw [Nat.pow_zero, Nat.div_one]
  omega
theorem numB_inj : ∀ {n : Nat} {a b : List UInt8}, a.length = n → b.length = n → numB a = numB b → a = b
  | 0, a, b, ha, hb, _ => by
    rw [List.eq_nil_of_length_eq_zero ha, List.eq_nil_of_length_eq_zero hb]
  | n + 1, a, b, ha, hb, h => by
    have hane : a ≠ [] := by intro e; rw [e] at ha; simp at ha
    have hbne : b ≠ [] := by intro e; rw [e] at hb; simp at hb
    rw [← List.dropLast_concat_getLast hane, ← List.dropLast_concat_getLast hbne] at h ⊢
    rw [numB_snoc, numB_snoc] at h
    have x1 := (a.getLast hane).toNat_lt
    have x2 := (b.getLast hbne).toNat_lt
    have h1 : numB a.dropLast = numB b.dropLast := by omega
    have h2 : (a.getLast hane).toNat = (b.getLast hbne).toNat := by omega
    rw [numB_inj (n := n) (by simp [ha]) (by simp [hb]) h1, UInt8.toNat_inj.1 h2]
theorem be_numB {l : List UInt8} {k : Nat} (h : l.length = k) : be k (numB l : Nat) = l := by
  refine numB_inj (be_len _ _) h ?_
  rw [numB_be]
  rw [← h]
  exact numB_lt l
theorem getR_typ (b : List UInt8) : (getR b).Typ := by
  refine ⟨(getR_ok b).1, fun i hi => ?_⟩
  have key : ∀ (s : Cs) n i, 0 ≤ (s.deps n).1 i := by
    intro s n
    induction n with
    | zero => intro i; exact Int.le_refl 0
    | succ n ih =>
      intro i
      show 0 ≤ setD _ n _ i
      unfold setD
      split
      · exact Int.natCast_nonneg _
      · exact ih i
  unfold getR
  split
  · unfold ofR
    split
    · show 0 ≤ Cs.headD (ownOf b) i
      unfold Cs.headD
      exact key _ _ _
    · exact Int.le_refl 0
  · exact Int.le_refl 0
theorem getE_cases (b : List UInt8) : getE b = 0 ∨ getE b = 5 := by
  unfold getE
  split
  · unfold ofE
    split
    · exact .inl rfl
    · exact .inr rfl
  · exact .inr rfl
theorem ofOk_bytes {i n : Int} {b : List UInt8} {t : Nat → UInt8} (h : ofOk i n b t = true) : orgOf b = i ∧ (msgOf n b t).bytes = b := by
  unfold ofOk at h
  simp only [Bool.and_eq_true, decide_eq_true_eq] at h
  exact ⟨h.2.1, h.2.2.2.2⟩
theorem ofOk_may {i n : Int} {b : List UInt8} {t : Nat → UInt8} (h : ofOk i n b t = true) (hb : b ≠ []) : (msgOf n b t).may = true ∧ (msgOf n b t).tagged = b := by
  have h1 := (ofOk_bytes h).2
  unfold Msg.bytes at h1
  split at h1
  · rename_i hm; exact ⟨hm, h1⟩
  · exact absurd h1.symm hb
theorem get_ok {b : List UInt8} (h : getE b = 0) : (getR b).may = true ∧ (getR b).putB = b := by
  unfold getE at h
  by_cases h41 : 41 ≤ b.length
  · rw [if_pos h41] at h
    unfold ofE at h
    split at h
    · rename_i hok
      have hol := ownOf_len h41
      have hne : ownOf b ≠ [] := by intro e; rw [e] at hol; simp at hol; omega
      have hR : getR b = msgOf (numOf b) (ownOf b) (tagOf b) := by
        unfold getR ofR
        rw [if_pos h41, if_pos hok]
      obtain ⟨h1, h2⟩ := ofOk_may hok hne
      rw [hR]
      refine ⟨h1, ?_⟩
      rw [putB_may h1, h2]
      have hb : b = b.take 8 ++ ((b.drop 8).take (b.length - 40) ++ (b.drop 8).drop (b.length - 40)) := by rw [List.take_append_drop, List.take_append_drop]
      have l1 : (b.take 8).length = 8 := by rw [List.length_take]; omega
      have l2 : ((b.drop 8).take (b.length - 40)).length = b.length - 40 := by rw [List.length_take, List.length_drop]; omega
      have l3 : ((b.drop 8).drop (b.length - 40)).length = 32 := by rw [List.length_drop, List.length_drop]; omega
      generalize b.take 8 = x1 at hb l1
      generalize (b.drop 8).take (b.length - 40) = x2 at hb l2
      generalize (b.drop 8).drop (b.length - 40) = x3 at hb l3
      have hsk : (⟨b, false⟩ : Cs).skip 8 = ⟨x2 ++ x3, false⟩ := by rw [hb, Cs.skip_app l1]
      have hn : numOf b = (numB x1 : Nat) := by
        unfold numOf
        rw [hb, Cs.num_app l1]
      have ho : ownOf b = x2 := by
        unfold ownOf
        rw [hsk, Cs.raw_app l2]
      have ht : b32L (tagOf b) = x3 := by
        unfold tagOf
        rw [hsk, Cs.skip_app l2]
        have hr := Cs.raw_app (r := []) l3
        rw [List.append_nil] at hr
        unfold Cs.hash
        rw [hr]
        exact b32L_get l3
      show be 8 (numOf b) ++ ownOf b ++ b32L (tagOf b) = b
      rw [hn, ho, ht, be_numB l1, List.append_assoc]
      exact hb.symm
    · exact absurd h (by decide)
  · rw [if_neg h41] at h
    exact absurd h (by decide)
theorem b32L_len (t : Nat → UInt8) : (b32L t).length = 32 := rfl
theorem putB_cancel {m k : Msg} (hm : m.may = true) (ht : m.Typ) (hk : k.may = true) (htk : k.Typ) {r s : List UInt8} (h : m.putB ++ r = k.putB ++ s) : r = s ∧ Msg.E m k := by
  rw [putB_may hm, putB_may hk] at h
  simp only [List.append_assoc] at h
  have h1 := List.append_inj h (by rw [be_len, be_len])
  obtain ⟨_, hn, _⟩ := Msg.may_facts hm ht
  obtain ⟨_, hn2, _⟩ := Msg.may_facts hk htk
  obtain ⟨h2, h3, h4, h5⟩ := tagged_cancel hm ht hk htk h1.2
  have h6 := List.append_inj h2 (by rw [b32L_len, b32L_len])
  refine ⟨h6.2, h3, ?_, h4, h5, ?_⟩
  · have a1 := numB_be8 (z := m.number) (by omega)
    have a2 := numB_be8 (z := k.number) (by omega)
    rw [h1.1, a2] at a1
    exact a1.symm
  · rw [b32_bytes, b32_bytes, h6.1]
/-- Cut, it is none. -/
theorem get_cut {m : Msg} (hm : m.may = true) (ht : m.Typ) {k : Nat} (hk : k < m.putB.length) : getE (m.putB.take k) = 5 := by
  rcases getE_cases (m.putB.take k) with h | h
  · obtain ⟨h1, h2⟩ := get_ok h
    have e : (getR (m.putB.take k)).putB ++ m.putB.drop k = m.putB ++ [] := by rw [h2, List.take_append_drop, List.append_nil]
    have h3 := (putB_cancel h1 (getR_typ _) hm ht e).1
    have h4 := congrArg List.length h3
    rw [List.length_drop, List.length_nil] at h4
    omega
  · exact h
/-- With more, it is none. -/
theorem get_more {m : Msg} (hm : m.may = true) (ht : m.Typ) (b : UInt8) : getE (m.putB ++ [b]) = 5 := by
  rcases getE_cases (m.putB ++ [b]) with h | h
  · obtain ⟨h1, h2⟩ := get_ok h
    have e : (getR (m.putB ++ [b])).putB ++ [] = m.putB ++ [b] := by rw [h2, List.append_nil]
    have h3 := (putB_cancel h1 (getR_typ _) hm ht e).1
    exact absurd h3 (by simp)
  · exact h
theorem put_same {m k : Msg} (hm : m.may = true) (ht : m.Typ) (hk : k.may = true) (htk : k.Typ) : m.putB = k.putB ↔ Msg.eqB m k = true := by
  rw [Msg.eqB_iff]
  exact ⟨fun h => (putB_cancel hm ht hk htk (r := []) (s := []) (by rw [h])).2, fun h => Msg.putB_congr h⟩
theorem get_back {m : Msg} (ht : m.Typ) : (getE m.putB = 0 ↔ m.may = true) ∧ (m.may = true → Msg.eqB (getR m.putB) m = true) := by
  refine ⟨⟨fun h => ?_, fun h => (get_put h ht).1⟩, fun h => Msg.eqB_iff.2 (get_put h ht).2⟩
  by_cases hm : m.may = true
  · exact hm
  · have : m.putB = [] := by unfold Msg.putB; exact if_neg hm
    rw [this, getE_nil] at h
    exact absurd h (by decide)
end Go.Proofs.YtcaofnfemogleaaGreatDoor

/- Layer 8, the document: the message that bytes might be the bytes of. -/
namespace Go.Proofs.YtcaofnfemogleaaGreatDoor
set_option linter.unusedSectionVars false
set_option linter.unusedSimpArgs false
set_option linter.unusedVariables false
open Go
/-- The body that might be, and what is left. -/
def Cs.bodyG (s : Cs) (k8 : UInt8) (kind : Nat) : Bod × Cs := if 1 ≤ kind ∧ kind ≤ 6 then s.bodyK 65535 65535 k8 kind else ({ Bod.zero k8 with view := (s.num 8 : Nat) }, s.skip 8)
def gbodyOf (b : List UInt8) : Bod × Cs := ((Cs.headS b).skip 1).bodyG (kindOf b) (kindOf b).toNat
/-- The message that might be. -/
def gmsg (b : List UInt8) : Msg := ⟨orgOf b, 0, Cs.headD b, (gbodyOf b).1, noTag⟩
def gokB (r : Bod × Cs) : Bool := !r.2.bad && decide (r.2.l.length = 0)
def gok (b : List UInt8) : Bool := gokB (gbodyOf b)
section
variable (f : Frag) (F : List HP)
def GEnv (cb mb xb ob : Nat) : Env := [(4, .pointer (some ⟨cb, 0, none⟩)), (5, .pointer (some ⟨mb, 0, none⟩)), (7, .pointer (some ⟨xb, 0, none⟩)), (2, .pointer (some ⟨ob, 0, none⟩))]
def GSt (f : Frag) (cb mb xb ob : Nat) (h : Msg) (r : Bod × Cs) (i : Option Addr × Nat) (F : List HP) : List HP :=
  row xb 34 (r.1.vals i.1 i.2) :: rcutC f cb r.2 :: qs i.1 i.2 r.1.q :: row mb 36 (h.vals none 0) :: row ob 36 (msg0.vals none 0) :: F
set_option maxHeartbeats 1600000 in
set_option maxRecDepth 20000 in
theorem rguess_fn {p : Option Addr} {c : Nat} {b : List UInt8} (hb : BAt f p b) (hc : b.length ≤ c) (hl : b.length ≤ 100000000) :
    Fn Tryz.prog 36 [.slice p b.length c] f F (RetE (fun j : Option Addr × Nat => .tuple #[.agg ((gmsg b).vals j.1 j.2).toArray, .bool (gok b)]) f (fun j => qs j.1 j.2 (gmsg b).body.q :: F)) := by
  have hn1 := (⟨b, false⟩ : Cs).num1_lt
  have hhl := Cs.headS_len b
  refine Fn.enter Tryz.func36 rfl Tryz.ntmps36 rfl (L := [(0, _)]) ⟨rfl, trivial⟩ fun base => ?_
  repeat ((first | apply H.seq | apply H.region))
  refine H.alloc (ls := msg0.vals none 0) rfl rfl rfl fun ob => ?_
  repeat (first | ((first | apply H.move | apply H.assign); (iterate 3 exact rfl)) | (first | apply H.seq | apply H.region | apply H.nil | apply H.then_normal) | ((apply H.build); (iterate 5 exact rfl)))
  refine H.box (ls := [.slice p b.length c, .bool false]) rfl rfl rfl rfl fun cb => ?_
  refine H.imp (rcut_fold hb hc) ?_
  repeat (first | ((first | apply H.move | apply H.assign); (iterate 3 exact rfl)) | (first | apply H.seq | apply H.region | apply H.nil | apply H.then_normal))
  refine H.callR rfl rfl rfl (rbyte_cs _ _ cb ⟨b, false⟩ (by show b.length ≤ _; omega)) ?_
  repeat (first | (refine H.build (t := 36) (out := (⟨orgOf b, 0, fun _ => 0, Bod.zero 0, noTag⟩ : Msg).vals none 0) rfl rfl rfl (by kernel_rfl) rfl ?_) | ((apply H.conv_int; (iterate 2 exact rfl)); (with_reducible apply wr_i64; omega); exact rfl))
  refine H.alloc (ls := msg0.vals none 0) rfl rfl rfl fun mb => ?_
  refine H.storeN (ls := msg0.vals none 0) (vs := (⟨orgOf b, 0, fun _ => 0, Bod.zero 0, noTag⟩ : Msg).vals none 0) (ls' := (⟨orgOf b, 0, fun _ => 0, Bod.zero 0, noTag⟩ : Msg).vals none 0) rfl rfl rfl (allOne_mem rfl) rfl rfl (Nat.le_refl 121) (by repeat (first | exact .here _ _ _ | apply At.there)) ?_
  repeat (first | ((apply H.assign); (iterate 3 exact rfl)) | (first | apply H.seq | apply H.region | apply H.nil | apply H.then_normal) | (apply H.block))
  refine H.loop (ι := Nat) (fun k => [(6, .int .i64 (k : Int)), (4, .pointer (some ⟨cb, 0, none⟩)), (5, .pointer (some ⟨mb, 0, none⟩)), (2, .pointer (some ⟨ob, 0, none⟩))]) (fun _ => f)
    (fun k => row mb 36 ((⟨orgOf b, 0, (((⟨b, false⟩ : Cs).skip 1).deps k).1, Bod.zero 0, noTag⟩ : Msg).vals none 0) :: rcutC f cb (((⟨b, false⟩ : Cs).skip 1).deps k).2 :: row ob 36 (msg0.vals none 0) :: F)
    (fun k => k ≤ 11) (fun k => 11 - k) 0 (Nat.zero_le _) ⟨rfl, rfl, rfl, rfl, trivial⟩ rfl rfl fun k hk => ?_
  have hk : k ≤ 11 := hk
  have hdl := Cs.deps_len ((⟨b, false⟩ : Cs).skip 1) k
  have hsl := (⟨b, false⟩ : Cs).skip_len 1
  have hbl : (⟨b, false⟩ : Cs).l.length = b.length := rfl
  show H _ _ _ _ _ (row mb _ ((⟨orgOf b, 0, (((⟨b, false⟩ : Cs).skip 1).deps k).1, Bod.zero 0, noTag⟩ : Msg).vals none 0) :: rcutC _ _ (((⟨b, false⟩ : Cs).skip 1).deps k).2 :: _) _
  by_cases hlt : k < 11
  · have hd1 : (((⟨b, false⟩ : Cs).skip 1).deps (k + 1)).1 = setD (((⟨b, false⟩ : Cs).skip 1).deps k).1 k ((((⟨b, false⟩ : Cs).skip 1).deps k).2.num 8 : Nat) := rfl
    have hd2 : (((⟨b, false⟩ : Cs).skip 1).deps (k + 1)).2 = (((⟨b, false⟩ : Cs).skip 1).deps k).2.skip 8 := rfl
    generalize (((⟨b, false⟩ : Cs).skip 1).deps k).1 = d at hd1 ⊢
    generalize (((⟨b, false⟩ : Cs).skip 1).deps k).2 = s at hd1 hd2 hdl ⊢
    have hset := msg_setdep (⟨orgOf b, 0, d, Bod.zero 0, noTag⟩ : Msg) none 0 (s.num 8 : Nat) hlt
    repeat (first | ((apply H.move); (iterate 3 exact rfl)) | (first | apply H.seq | apply H.region | apply H.nil | apply H.then_normal) | ((apply H.cmp); (iterate 5 exact rfl)) | (first | apply H.skip | apply H.block) | (apply H.cond_yes; exact rfl; (omega)))
    refine H.front (x := rcutC _ _ _) (by repeat (first | exact .here _ _ | apply Pull.there)) ?_
    refine H.callR rfl rfl rfl (rword_cs _ _ cb s (by omega)) ?_
    repeat ((apply H.fieldAddr; (iterate 3 exact rfl); exact inferInstance; exact rfl))
    refine H.index_array (i := k) rfl rfl rfl rfl hlt rfl ?_
    refine H.store1 (v := .int .u64 (s.num 8 : Nat)) (ls' := (⟨orgOf b, 0, setD d k (s.num 8 : Nat), Bod.zero 0, noTag⟩ : Msg).vals none 0) rfl rfl rfl rfl (by repeat (first | exact .here _ _ _ | apply At.there)) (by rw [Nat.zero_add, Nat.mul_one]; exact hset) ?_
    repeat (first | ((first | apply H.move | apply H.assign); (iterate 3 exact rfl)) | (first | apply H.region | apply H.nil | apply H.then_normal) | ((apply H.ar; (iterate 4 exact rfl)); (with_reducible apply wr_i64_n1; omega); exact rfl) | (apply H.in_normal))
    refine H.front (x := row mb _ _) (by repeat (first | exact .here _ _ | apply Pull.there)) ?_
    exact H.again (k + 1) (by show k + 1 ≤ 11; omega) (by show 11 - (k + 1) < 11 - k; omega) ⟨rfl, rfl, rfl, rfl, trivial⟩ rfl (by rw [hd1, hd2])
  · have hk11 : k = 11 := by omega
    subst hk11
    show H _ _ _ _ _ (row mb _ ((⟨orgOf b, 0, Cs.headD b, Bod.zero 0, noTag⟩ : Msg).vals none 0) :: rcutC _ _ (Cs.headS b) :: _) _
    have hkb : ((Cs.headS b).num 1 : Int) = ((kindOf b).toNat : Nat) := (Cs.byte_nat _).symm
    have hgb : gbodyOf b = ((Cs.headS b).skip 1).bodyG (kindOf b) (kindOf b).toNat := rfl
    have hsk := (Cs.headS b).skip_len 1
    have hgm : gmsg b = ⟨orgOf b, 0, Cs.headD b, (gbodyOf b).1, noTag⟩ := rfl
    have hgo : gok b = gokB (gbodyOf b) := rfl
    rw [hgm, hgo]
    clear hgm hgo
    rw [hgb]
    clear hgb
    generalize orgOf b = og
    generalize Cs.headD b = hd
    repeat (first | ((apply H.move); (iterate 3 exact rfl)) | (first | apply H.seq | apply H.region | apply H.nil | apply H.then_normal) | ((apply H.cmp); (iterate 5 exact rfl)) | (apply H.cond_false; exact rfl) | (first | apply H.then_exit | apply H.exit | apply H.in_hit | apply H.loop_exit))
    refine H.front (x := rcutC _ _ _) (by repeat (first | exact .here _ _ | apply Pull.there)) ?_
    refine H.callR rfl rfl rfl (rbyte_cs _ _ cb (Cs.headS b) (by omega)) ?_
    rw [hkb]
    generalize kindOf b = k8
    generalize hS : (Cs.headS b).skip 1 = S at hsk ⊢
    have hS8 := S.skip_len 8
    have hSl : S.l.length ≤ 100000000 := by omega
    clear hdl hsl hbl hkb hlt hk hS hsk hhl hn1 hb hc hl
    repeat ((refine H.build (t := 34) (out := (Bod.zero k8).vals none 0) rfl rfl rfl (by kernel_rfl) rfl ?_))
    refine H.alloc (ls := (Bod.zero 0).vals none 0) rfl rfl rfl fun xb => ?_
    refine H.storeN (ls := (Bod.zero 0).vals none 0) (vs := (Bod.zero k8).vals none 0) (ls' := (Bod.zero k8).vals none 0) rfl rfl rfl (allOne_mem rfl) rfl rfl (Nat.le_refl 76) (by repeat (first | exact .here _ _ _ | apply At.there)) ?_
    have hz : ∀ v q, ({ Bod.zero k8 with view := v, q := q } : Bod).kind.toNat = k8.toNat := fun _ _ => rfl
    have hkd0 : (Bod.zero k8).kind.toNat = k8.toNat := rfl
    generalize hkd : k8.toNat = kind at hkd0
    repeat (first | (apply H.fieldAddr; (iterate 3 exact rfl); exact inferInstance; exact rfl) | (apply H.load1; (iterate 3 exact rfl); apply Rd1.ofRow; (repeat (exact .here _ _ _)); (iterate 2 exact rfl)) | (first | apply H.seq | apply H.region | apply H.nil | apply H.then_normal) | ((apply H.cmp); (iterate 5 exact rfl)))
    refine H.cut (ι := Int × Cs) (fun _ => GEnv cb mb xb ob) (fun _ => f) (fun i => row xb 34 (({ Bod.zero k8 with view := i.1 } : Bod).vals none 0) :: rcutC f cb i.2 :: row mb 36 ((⟨og, 0, hd, Bod.zero 0, noTag⟩ : Msg).vals none 0) :: row ob 36 (msg0.vals none 0) :: F)
      (fun i => (kind = 6 → i = (0, S)) ∧ (¬ kind = 6 → i = (((S.num 8 : Nat) : Int), S.skip 8))) _ (fun i hi => ?_) ?_
    · obtain ⟨v0, s0⟩ := i
      obtain ⟨hi6, hin⟩ : (kind = 6 → (v0, s0) = (0, S)) ∧ (¬ kind = 6 → (v0, s0) = (((S.num 8 : Nat) : Int), S.skip 8)) := hi
      show H _ _ _ (GEnv cb mb xb ob) _ (row xb _ (({ Bod.zero k8 with view := v0 } : Bod).vals none 0) :: rcutC f cb s0 :: _) _
      unfold GEnv
      repeat refine H.seq ?_
      refine H.region ?_
      apply H.fieldAddr
      iterate 3 exact rfl
      exact inferInstance
      exact rfl
      refine H.load1 (v := .int .u8 (k8.toNat : Nat)) rfl rfl rfl (Rd1.ofRow (.here _ _ _) rfl) rfl ?_
      refine H.nil ?_
      refine H.then_normal ?_
      rw [hkd]
      refine H.cut (ι := Option Addr × Nat) (fun _ => GEnv cb mb xb ob) (fun _ => f) (fun i => GSt f cb mb xb ob ⟨og, 0, hd, Bod.zero 0, noTag⟩ (S.bodyG k8 kind) i F) (fun _ => True) _ (fun i _ => ?_) ?_
      · unfold GEnv GSt
        generalize S.bodyG k8 kind = r
        obtain ⟨x, s⟩ := r
        show H _ _ _ _ _ (row xb _ (x.vals i.1 i.2) :: rcutC f cb s :: qs i.1 i.2 x.q :: _) _
        clear hi6 hin hz hkd0 hkd hS8 hSl
        repeat ((first | apply H.seq | apply H.region))
        refine H.loadN (ls := x.vals i.1 i.2) rfl rfl rfl (Rd.ofRow (.here _ _ _)) rfl rfl ?_
        repeat ((apply H.fieldAddr; (iterate 3 exact rfl); exact inferInstance; exact rfl))
        refine H.storeN (vs := x.vals i.1 i.2) (ls' := (⟨og, 0, hd, x, noTag⟩ : Msg).vals i.1 i.2) rfl rfl rfl (allOne_mem rfl) rfl rfl (by show 0 + 13 + 76 ≤ 121; decide) (.there _ (.there _ (.there _ (.here _ _ _)))) ?_
        refine H.drop (.here _ _) ?_
        refine H.rcutOpen fun p2 c2 hb2 hc2 => ?_
        refine H.front (x := row mb _ _) (by repeat (first | exact .here _ _ | apply Pull.there)) ?_
        obtain ⟨sl, sb⟩ := s
        show H _ _ _ _ _ (row mb _ _ :: row cb _ [.slice p2 sl.length c2, .bool sb] :: _) _
        cases sb with
        | true =>
          repeat ((first | apply H.seq | apply H.nil | apply H.then_normal))
          refine H.drawB (by kernel_rfl) (by decide +kernel) (by first | exact blind_fn | exact blind_seq blind_fn | exact blind_seq (blind_seq blind_fn) | (repeat (first | exact blind_fn | refine blind_seq ?_ | refine blind_block ?_ | refine blind_loop ?_))) (S := [_, _]) rfl ?_
          refine HB.quiet [(0, false), (1, false), (2, false), (3, false), (4, false), (5, false), (6, false), (7, false), (8, false), (9, false), (10, false), (11, false), (12, false), (13, false)] 2 (by kernel_rfl) ?_
          refine HQ.loadN (ls := (⟨og, 0, hd, x, noTag⟩ : Msg).vals i.1 i.2) rfl rfl rfl (Rd.ofRow (.here _ _ _)) rfl rfl ?_
          repeat (first | ((first | apply HQ.move | apply HQ.nilCheck | apply HQ.len_slice); (iterate 3 exact rfl)) | (apply HQ.fieldAddr; (iterate 3 exact rfl); exact inferInstance; exact rfl) | (apply HQ.load1; (iterate 3 exact rfl); apply Rd1.ofRow; (repeat (first | exact .here _ _ _ | apply At.there)); (iterate 2 exact rfl)) | (apply HQ.pass; (iterate 2 exact rfl)) | ((first | apply HQ.pickF | apply HQ.not); (iterate 4 exact rfl)))
          refine HQ.more rfl ?_
          refine HB.ev1 (i := 14) (by kernel_rfl) rfl ?_
          refine H.storeN (ls := msg0.vals none 0) (vs := (⟨og, 0, hd, x, noTag⟩ : Msg).vals i.1 i.2) (ls' := (⟨og, 0, hd, x, noTag⟩ : Msg).vals i.1 i.2) rfl rfl rfl (allOne_mem rfl) rfl (splice_all rfl) (by rw [Msg.vals_len, Msg.vals_len]; decide) (.there _ (.there _ (.there _ (.here _ _ _)))) ?_
          repeat ((apply H.nil))
          refine H.on0 rfl ?_
          refine HB.quiet [(15, false)] 0 (by kernel_rfl) ?_
          repeat (((apply HQ.assign); (iterate 3 exact rfl)))
          refine HQ.more rfl ?_
          refine HB.done (by kernel_rfl) ?_
          repeat (first | (apply H.then_normal) | (apply H.ret))
          refine H.drop (.here _ _) ?_
          refine H.drop (.here _ _) ?_
          exact H.retCT rfl rfl rfl rfl (Rd.ofRow (.there _ (.here _ _ _))) rfl (fun _ s => s.drop (.there _ (.here _ _))) ⟨i, rfl, rfl, rfl⟩
        | false =>
          have e : decide (((sl.length : Nat) : Int) = 0) = gokB (x, ⟨sl, false⟩) := by
            show _ = (true && decide (sl.length = 0))
            rw [Bool.true_and]
            exact decide_eq_decide.2 (by omega)
          repeat ((first | apply H.seq | apply H.nil | apply H.then_normal))
          refine H.drawB (by kernel_rfl) (by decide +kernel) (by first | exact blind_fn | exact blind_seq blind_fn | exact blind_seq (blind_seq blind_fn) | (repeat (first | exact blind_fn | refine blind_seq ?_ | refine blind_block ?_ | refine blind_loop ?_))) (S := [_, _]) rfl ?_
          refine HB.quiet [(0, false), (1, false), (2, false), (3, false), (4, false), (5, false), (6, false), (7, false), (8, false), (9, false), (10, false), (11, false), (12, false), (13, false)] 2 (by kernel_rfl) ?_
          refine HQ.loadN (ls := (⟨og, 0, hd, x, noTag⟩ : Msg).vals i.1 i.2) rfl rfl rfl (Rd.ofRow (.here _ _ _)) rfl rfl ?_
          repeat (first | ((first | apply HQ.move | apply HQ.nilCheck | apply HQ.len_slice); (iterate 3 exact rfl)) | (apply HQ.fieldAddr; (iterate 3 exact rfl); exact inferInstance; exact rfl) | (apply HQ.load1; (iterate 3 exact rfl); apply Rd1.ofRow; (repeat (first | exact .here _ _ _ | apply At.there)); (iterate 2 exact rfl)) | ((apply HQ.cmp); (iterate 5 exact rfl)) | (apply HQ.pickT; (iterate 4 exact rfl)) | ((apply HQ.not); (iterate 4 exact rfl)))
          refine HQ.more rfl ?_
          refine HB.ev1 (i := 14) (by kernel_rfl) rfl ?_
          refine H.storeN (ls := msg0.vals none 0) (vs := (⟨og, 0, hd, x, noTag⟩ : Msg).vals i.1 i.2) (ls' := (⟨og, 0, hd, x, noTag⟩ : Msg).vals i.1 i.2) rfl rfl rfl (allOne_mem rfl) rfl (splice_all rfl) (by rw [Msg.vals_len, Msg.vals_len]; decide) (.there _ (.there _ (.there _ (.here _ _ _)))) ?_
          repeat ((apply H.nil))
          refine H.on0 rfl ?_
          refine HB.quiet [(15, false)] 0 (by kernel_rfl) ?_
          repeat (((apply HQ.assign); (iterate 3 exact rfl)))
          refine HQ.more rfl ?_
          refine HB.done (by kernel_rfl) ?_
          repeat (first | (apply H.then_normal) | (apply H.ret))
          refine H.drop (.here _ _) ?_
          refine H.drop (.here _ _) ?_
          exact H.retCT rfl rfl rfl rfl (Rd.ofRow (.there _ (.here _ _ _))) rfl (fun _ s => s.drop (.there _ (.here _ _))) ⟨i, by rw [e], rfl, rfl⟩
      · by_cases hk1 : kind = 1
        · have e := hin (by omega)
          rw [Prod.mk.injEq] at e
          obtain ⟨rfl, rfl⟩ := e
          subst hk1
          have hG : S.bodyG k8 1 = ({ Bod.zero k8 with view := ((S.num 8 : Nat) : Int), req := (S.skip 8).req 65535 65535 }, (S.skip 8).reqS 65535 65535) := by unfold Cs.bodyG; rw [if_pos (by decide)]; rfl
          rw [hG]
          clear hG hi6 hin hz hkd0 hkd
          unfold Cs.req Cs.reqS
          dsimp only
          generalize ((S.num 8 : Nat) : Int) = v8
          generalize S.skip 8 = s0 at hS8 ⊢
          have n1 := s0.num1_lt
          have a1 := s0.skip_len 1
          unfold GEnv
          repeat (first | ((first | apply H.move | apply H.assign); (iterate 3 exact rfl)) | (first | apply H.seq | apply H.region | apply H.nil | apply H.then_normal) | ((apply H.cmp); (iterate 5 exact rfl)) | (apply H.cond_true; exact rfl) | (apply H.block))
          refine H.front (.there _ (.here _ _)) ?_
          refine H.callR rfl rfl rfl (rbyte_cs f _ cb s0 (by omega)) ?_
          repeat (first | ((apply H.move); (iterate 3 exact rfl)) | (apply H.fieldAddr; (iterate 3 exact rfl); exact inferInstance; exact rfl) | (first | apply H.seq | apply H.region | apply H.nil | apply H.then_normal) | ((apply H.conv_int; (iterate 2 exact rfl)); (with_reducible apply wr_i64; omega); exact rfl) | (apply H.store1; (iterate 4 exact rfl); (repeat (first | exact .here _ _ _ | apply At.there)); (repeat (first | exact .here _ _ _ | apply SetV.there))))
          generalize hs1 : s0.skip 1 = s1 at a1 ⊢
          have a2 := s1.skip_len 1
          refine H.callR rfl rfl rfl (rbyte_cs f _ cb s1 (by omega)) ?_
          rw [← Cs.byte_nat s1]
          generalize hs2 : s1.skip 1 = s2 at a2 ⊢
          have a3 := s2.skip_len 8
          repeat (first | ((apply H.move); (iterate 3 exact rfl)) | (apply H.fieldAddr; (iterate 3 exact rfl); exact inferInstance; exact rfl) | (first | apply H.seq | apply H.region | apply H.nil | apply H.then_normal) | (apply H.store1; (iterate 4 exact rfl); (repeat (first | exact .here _ _ _ | apply At.there)); (repeat (first | exact .here _ _ _ | apply SetV.there))))
          refine H.callR rfl rfl rfl (rword_cs f _ cb s2 (by omega)) ?_
          generalize hs3 : s2.skip 8 = s3 at a3 ⊢
          have a4 := s3.skip_len 8
          repeat (first | ((apply H.move); (iterate 3 exact rfl)) | (apply H.fieldAddr; (iterate 3 exact rfl); exact inferInstance; exact rfl) | (first | apply H.seq | apply H.region | apply H.nil | apply H.then_normal) | (apply H.store1; (iterate 4 exact rfl); (repeat (first | exact .here _ _ _ | apply At.there)); (repeat (first | exact .here _ _ _ | apply SetV.there))))
          refine H.callR rfl rfl rfl (rword_cs f _ cb s3 (by omega)) ?_
          generalize hs4 : s3.skip 8 = s4 at a4 ⊢
          have a5 := s4.textS_len 65535
          repeat (first | ((apply H.move); (iterate 3 exact rfl)) | (apply H.fieldAddr; (iterate 3 exact rfl); exact inferInstance; exact rfl) | (first | apply H.seq | apply H.region | apply H.nil | apply H.then_normal) | (apply H.store1; (iterate 4 exact rfl); (repeat (first | exact .here _ _ _ | apply At.there)); (repeat (first | exact .here _ _ _ | apply SetV.there))))
          refine H.callR rfl rfl rfl (rtext_cs f _ cb s4 (most := 65535) (by omega) (by decide)) ?_
          generalize hs5 : s4.textS 65535 = s5 at a5 ⊢
          have a6 := s5.textS_len 65535
          repeat (first | ((apply H.move); (iterate 3 exact rfl)) | (apply H.fieldAddr; (iterate 3 exact rfl); exact inferInstance; exact rfl) | (first | apply H.seq | apply H.region | apply H.nil | apply H.then_normal) | (apply H.store1; (iterate 4 exact rfl); (repeat (first | exact .here _ _ _ | apply At.there)); (repeat (first | exact .here _ _ _ | apply SetV.there))))
          refine H.callR rfl rfl rfl (rtext_cs f _ cb s5 (most := 65535) (by omega) (by decide)) ?_
          generalize hs6 : s5.textS 65535 = s6 at a6 ⊢
          have a7 := s6.textS_len 65535
          repeat (first | ((apply H.move); (iterate 3 exact rfl)) | (apply H.fieldAddr; (iterate 3 exact rfl); exact inferInstance; exact rfl) | (first | apply H.seq | apply H.region | apply H.nil | apply H.then_normal) | (apply H.store1; (iterate 4 exact rfl); (repeat (first | exact .here _ _ _ | apply At.there)); (repeat (first | exact .here _ _ _ | apply SetV.there))))
          refine H.callR rfl rfl rfl (rtext_cs f _ cb s6 (most := 65535) (by omega) (by decide)) ?_
          generalize hs7 : s6.textS 65535 = s7 at a7 ⊢
          have a8 := s7.textS_len 65535
          repeat (first | ((apply H.move); (iterate 3 exact rfl)) | (apply H.fieldAddr; (iterate 3 exact rfl); exact inferInstance; exact rfl) | (first | apply H.seq | apply H.region | apply H.nil | apply H.then_normal) | (apply H.store1; (iterate 4 exact rfl); (repeat (first | exact .here _ _ _ | apply At.there)); (repeat (first | exact .here _ _ _ | apply SetV.there))))
          refine H.callR rfl rfl rfl (rtext_cs f _ cb s7 (most := 65535) (by omega) (by decide)) ?_
          generalize hs8 : s7.textS 65535 = s8 at a8 ⊢
          repeat (first | ((apply H.move); (iterate 3 exact rfl)) | (apply H.fieldAddr; (iterate 3 exact rfl); exact inferInstance; exact rfl) | (first | apply H.region | apply H.nil | apply H.then_normal) | (apply H.store1; (iterate 4 exact rfl); (repeat (first | exact .here _ _ _ | apply At.there)); (repeat (first | exact .here _ _ _ | apply SetV.there))))
          refine H.callR rfl rfl rfl (rdigest_cs f _ cb s8 (by omega)) ?_
          repeat ((apply H.fieldAddr; (iterate 3 exact rfl); exact inferInstance; exact rfl))
          generalize hr : (⟨(s0.num 1 : Nat), (s2.num 8 : Nat), s1.byte, baOf (s4.text 65535), baOf (s5.text 65535), baOf (s6.text 65535), baOf (s7.text 65535), (s3.num 8 : Nat), s8.hash⟩ : Req) = r
          refine H.storeN (vs := b32 s8.hash) (ls' := ({ Bod.zero k8 with view := v8, req := r } : Bod).vals none 0) rfl rfl rfl (allOne_mem rfl) rfl ?_ ?_ (by repeat (first | exact .here _ _ _ | apply At.there)) ?_
          · subst hr; rfl
          · exact (show 3 + 8 + 32 ≤ 76 by decide)
          repeat (first | (apply H.nil) | (apply H.in_normal))
          refine H.slc0 92 2 ?_
          refine H.front (x := rcutC _ _ _) (by repeat (first | exact .here _ _ | apply Pull.there)) ?_
          refine H.front (x := row xb _ _) (by repeat (first | exact .here _ _ | apply Pull.there)) ?_
          exact H.meet (none, 0) trivial ⟨rfl, rfl, rfl, rfl, trivial⟩ rfl rfl
        · by_cases hk2 : kind = 2
          · have e := hin (by omega)
            rw [Prod.mk.injEq] at e
            obtain ⟨rfl, rfl⟩ := e
            subst hk2
            have hG : S.bodyG k8 2 = ({ Bod.zero k8 with view := ((S.num 8 : Nat) : Int), k := (((S.skip 8).num 8 : Nat) : Int) }, (S.skip 8).skip 8) := by unfold Cs.bodyG; rw [if_pos (by decide)]; rfl
            rw [hG]
            clear hG hi6 hin hz hkd0 hkd
            generalize ((S.num 8 : Nat) : Int) = v8
            generalize S.skip 8 = s0 at hS8 ⊢
            unfold GEnv
            repeat (first | ((first | apply H.move | apply H.assign); (iterate 3 exact rfl)) | (first | apply H.seq | apply H.region | apply H.nil | apply H.then_normal) | ((apply H.cmp); (iterate 5 exact rfl)) | (apply H.cond_true; exact rfl) | (apply H.cond_false; exact rfl) | (apply H.block))
            refine H.front (.there _ (.here _ _)) ?_
            refine H.callR rfl rfl rfl (rword_cs f _ cb s0 (by omega)) ?_
            repeat (first | (apply H.fieldAddr; (iterate 3 exact rfl); exact inferInstance; exact rfl) | (apply H.nil) | (apply H.store1; (iterate 4 exact rfl); (repeat (first | exact .here _ _ _ | apply At.there)); (repeat (first | exact .here _ _ _ | apply SetV.there))) | (apply H.in_normal))
            refine H.slc0 92 2 ?_
            refine H.front (x := rcutC _ _ _) (by repeat (first | exact .here _ _ | apply Pull.there)) ?_
            refine H.front (x := row xb _ _) (by repeat (first | exact .here _ _ | apply Pull.there)) ?_
            exact H.meet (none, 0) trivial ⟨rfl, rfl, rfl, rfl, trivial⟩ rfl rfl
          · by_cases hk4 : kind = 4
            · have e := hin (by omega)
              rw [Prod.mk.injEq] at e
              obtain ⟨rfl, rfl⟩ := e
              subst hk4
              have hG : S.bodyG k8 4 = ({ Bod.zero k8 with view := ((S.num 8 : Nat) : Int), q := (Cs.pairs ((S.skip 8).num 1) ((S.skip 8).skip 1) []).1 }, (Cs.pairs ((S.skip 8).num 1) ((S.skip 8).skip 1) []).2) := by unfold Cs.bodyG; rw [if_pos (by decide)]; rfl
              rw [hG]
              clear hG hi6 hin hz hkd0 hkd
              generalize ((S.num 8 : Nat) : Int) = v8
              generalize S.skip 8 = s1 at hS8 ⊢
              have n1 := s1.num1_lt
              have a1 := s1.skip_len 1
              unfold GEnv
              repeat (first | ((first | apply H.move | apply H.assign); (iterate 3 exact rfl)) | (first | apply H.seq | apply H.region | apply H.nil | apply H.then_normal) | ((apply H.cmp); (iterate 5 exact rfl)) | (apply H.cond_true; exact rfl) | (apply H.cond_false; exact rfl) | (apply H.block))
              refine H.front (.there _ (.here _ _)) ?_
              refine H.callR rfl rfl rfl (rbyte_cs f _ cb s1 (by omega)) ?_
              generalize hs0 : s1.skip 1 = s0 at a1 ⊢
              generalize hN : s1.num 1 = N at n1 ⊢
              repeat (first | ((apply H.assign); (iterate 3 exact rfl)) | (first | apply H.seq | apply H.region | apply H.nil | apply H.then_normal) | ((apply H.conv_int; (iterate 2 exact rfl)); (with_reducible apply wr_i64; omega); exact rfl) | (apply H.block))
              refine H.slc0 92 2 ?_
              refine H.front (.there _ (.here _ _)) ?_
              refine H.front (.there _ (.there _ (.here _ _))) ?_
              refine H.loop (ι := Nat × Cs × List (Int × Int) × Option Addr × Nat) (fun i => [(9, .int .i64 (i.1 : Int)), (8, .int .i64 (N : Nat)), (4, .pointer (some ⟨cb, 0, none⟩)), (5, .pointer (some ⟨mb, 0, none⟩)), (7, .pointer (some ⟨xb, 0, none⟩)), (2, .pointer (some ⟨ob, 0, none⟩))]) (fun _ => f)
                (fun i => row xb 34 (({ Bod.zero k8 with view := v8, q := i.2.2.1 } : Bod).vals i.2.2.2.1 i.2.2.2.2) :: rcutC f cb i.2.1 :: qs i.2.2.2.1 i.2.2.2.2 i.2.2.1 :: row mb 36 ((⟨og, 0, hd, Bod.zero 0, noTag⟩ : Msg).vals none 0) :: row ob 36 (msg0.vals none 0) :: F)
                (fun i => i.1 ≤ N ∧ i.2.2.1.length = i.1 ∧ i.2.1.l.length ≤ s1.l.length ∧ Cs.pairs N s0 [] = Cs.pairs (N - i.1) i.2.1 i.2.2.1) (fun i => N - i.1) (0, s0, [], none, 0) ⟨Nat.zero_le _, rfl, a1, rfl⟩ ⟨rfl, rfl, rfl, rfl, rfl, rfl, trivial⟩ rfl rfl fun i hi => ?_
              obtain ⟨n, s', acc, qp, qc⟩ := i
              obtain ⟨hn, hacc, hlen, hp⟩ : n ≤ N ∧ acc.length = n ∧ s'.l.length ≤ s1.l.length ∧ Cs.pairs N s0 [] = Cs.pairs (N - n) s' acc := hi
              rw [hp]
              show H _ _ _ [(9, .int .i64 (n : Int)), _, _, _, _, _] _ (row xb _ (({ Bod.zero k8 with view := v8, q := acc } : Bod).vals qp qc) :: rcutC f cb s' :: qs qp qc acc :: _) _
              by_cases hlt : n < N
              · obtain ⟨m, hm⟩ : ∃ m, N - n = m + 1 := ⟨N - n - 1, by omega⟩
                rw [hm]
                refine H.front (.there _ (.here _ _)) ?_
                refine H.rcutOpen fun p2 c2 hb2 hc2 => ?_
                obtain ⟨sl, sb⟩ := s'
                have hb2 : BAt f p2 sl := hb2
                have hc2 : sl.length ≤ c2 := hc2
                have hlen : sl.length ≤ s1.l.length := hlen
                show H _ _ _ _ _ (row cb _ [.slice p2 sl.length c2, .bool sb] :: _) _
                cases sb with
                | true =>
                  have hp0 : Cs.pairs (m + 1) ⟨sl, true⟩ acc = (acc, ⟨sl, true⟩) := by simp [Cs.pairs]
                  rw [hp0]
                  repeat (first | ((first | apply H.move | apply H.nilCheck); (iterate 3 exact rfl)) | (apply H.fieldAddr; (iterate 3 exact rfl); exact inferInstance; exact rfl) | (apply H.load1; (iterate 3 exact rfl); apply Rd1.ofRow; (repeat (exact .here _ _ _)); (iterate 2 exact rfl)) | (first | apply H.seq | apply H.region | apply H.nil | apply H.then_normal) | ((apply H.cmp); (iterate 5 exact rfl)) | (apply H.pickT; (iterate 4 exact rfl)) | ((apply H.not); (iterate 4 exact rfl)) | (apply H.cond_false; exact rfl) | (first | apply H.then_exit | apply H.exit | apply H.in_normal | apply H.in_hit | apply H.loop_exit) | (apply H.gyes; (iterate 3 exact rfl); (omega)))
                  refine H.imp (rcut_fold hb2 hc2) ?_
                  refine H.front (.there _ (.here _ _)) ?_
                  exact H.meet (qp, qc) trivial ⟨rfl, rfl, rfl, rfl, trivial⟩ rfl rfl
                | false =>
                  have hp0 : Cs.pairs (m + 1) ⟨sl, false⟩ acc = Cs.pairs m (((⟨sl, false⟩ : Cs).skip 1).skip 8) (acc ++ [((((⟨sl, false⟩ : Cs).num 1 : Nat) : Int), ((((⟨sl, false⟩ : Cs).skip 1).num 8 : Nat) : Int))]) := by simp [Cs.pairs]
                  rw [hp0]
                  have b1 := (⟨sl, false⟩ : Cs).skip_len 1
                  have b2 := ((⟨sl, false⟩ : Cs).skip 1).skip_len 8
                  have m1 := (⟨sl, false⟩ : Cs).num1_lt
                  have b0 : (⟨sl, false⟩ : Cs).l.length = sl.length := rfl
                  repeat (first | ((first | apply H.move | apply H.nilCheck); (iterate 3 exact rfl)) | (apply H.fieldAddr; (iterate 3 exact rfl); exact inferInstance; exact rfl) | (apply H.load1; (iterate 3 exact rfl); apply Rd1.ofRow; (repeat (exact .here _ _ _)); (iterate 2 exact rfl)) | (first | apply H.seq | apply H.region | apply H.nil | apply H.then_normal) | ((apply H.cmp); (iterate 5 exact rfl)) | (apply H.pickT; (iterate 4 exact rfl)) | ((apply H.not); (iterate 4 exact rfl)) | (apply H.cond_true; exact rfl) | (first | apply H.skip | apply H.block) | (apply H.gyes; (iterate 3 exact rfl); (omega)))
                  refine H.imp (rcut_fold hb2 hc2) ?_
                  generalize hss : (⟨sl, false⟩ : Cs) = ss at b0 b1 b2 m1 ⊢
                  refine H.callR rfl rfl rfl (rbyte_cs f _ cb ss (by omega)) ?_
                  generalize ss.skip 1 = ss1 at b1 b2 ⊢
                  repeat (first | ((apply H.build); (iterate 5 exact rfl)) | ((apply H.conv_int; (iterate 2 exact rfl)); (with_reducible apply wr_i64; omega); exact rfl))
                  refine H.alloc (ls := pairV (0, 0)) rfl rfl rfl fun pb => ?_
                  refine H.storeN (ls := pairV (0, 0)) (vs := pairV ((ss.num 1 : Nat), 0)) (ls' := pairV ((ss.num 1 : Nat), 0)) rfl rfl rfl (allOne_mem rfl) rfl rfl (Nat.le_refl 2) (.here _ _ _) ?_
                  repeat (first | ((apply H.move); (iterate 3 exact rfl)) | (first | apply H.seq | apply H.region | apply H.nil | apply H.then_normal))
                  refine H.front (.there _ (.here _ _)) ?_
                  refine H.callR rfl rfl rfl (rword_cs f _ cb ss1 (by omega)) ?_
                  generalize ss1.skip 8 = ss2 at b2 ⊢
                  repeat (first | (apply H.fieldAddr; (iterate 3 exact rfl); exact inferInstance; exact rfl) | (apply H.load1; (iterate 3 exact rfl); apply Rd1.ofRow; (repeat (first | exact .here _ _ _ | apply At.there)); (iterate 2 exact rfl)) | (first | apply H.region | apply H.nil | apply H.then_normal) | (apply H.store1; (iterate 4 exact rfl); (repeat (first | exact .here _ _ _ | apply At.there)); (repeat (first | exact .here _ _ _ | apply SetV.there))))
                  generalize hpr : ((((ss.num 1 : Nat) : Int), ((ss1.num 8 : Nat) : Int)) : Int × Int) = pr
                  refine H.loadN (ls := pairV pr) rfl rfl rfl (by subst hpr; exact Rd.ofRow (.there _ (.here _ _ _))) rfl rfl ?_
                  refine H.buildSlice (out := pairV pr) rfl rfl rfl rfl (by decide) (by decide) rfl rfl fun tb => ?_
                  refine H.append (m := 1) (news := pairV pr) rfl rfl rfl rfl rfl (fun p' c' => (by repeat (first | exact .here _ _ _ | apply At.there))) (Src.slice (Rd.ofRow (.here _ _ _)) rfl) (allOne_mem rfl) rfl (show acc.length + 1 ≤ _ by omega) (show (acc.length + 1) * _ ≤ _ by omega) fun p' c' => ?_
                  refine H.drop (.here _ _) ?_
                  have e : Value.slice p' (acc.length + 1) c' = .slice p' (acc ++ [pr]).length c' := by rw [List.length_append]; rfl
                  have e2 : qs p' c' (acc ++ [pr]) = slc p' (acc.length + 1) c' 92 2 (acc.flatMap pairV ++ pairV pr) := by
                    unfold qs; rw [List.length_append, List.flatMap_append]; simp
                  rw [e]
                  refine H.drop (x := row pb _ _) (by repeat (first | exact .here _ _ | apply Pull.there)) ?_
                  refine H.front (x := row xb _ _) (by repeat (first | exact .here _ _ | apply Pull.there)) ?_
                  repeat (first | ((first | apply H.move | apply H.assign); (iterate 3 exact rfl)) | (apply H.fieldAddr; (iterate 3 exact rfl); exact inferInstance; exact rfl) | (first | apply H.region | apply H.nil | apply H.then_normal) | ((apply H.ar; (iterate 4 exact rfl)); (with_reducible apply wr_i64_n1; omega); exact rfl) | (apply H.store1; (iterate 4 exact rfl); (repeat (exact .here _ _ _)); (repeat (first | exact .here _ _ _ | apply SetV.there))) | (apply H.in_normal))
                  have hal : (acc ++ [pr]).length = n + 1 := by rw [List.length_append, hacc]; rfl
                  refine H.again (n + 1, ss2, acc ++ [pr], p', c') ⟨hlt, hal, by show ss2.l.length ≤ _; omega, ?_⟩ (by show N - (n + 1) < N - n; omega) ⟨rfl, rfl, rfl, rfl, rfl, rfl, trivial⟩ rfl ?_
                  · show _ = Cs.pairs (N - (n + 1)) ss2 (acc ++ [pr])
                    rw [show N - (n + 1) = m by omega]
                  · show _ = row xb _ _ :: rcutC f cb ss2 :: qs p' c' (acc ++ [pr]) :: _
                    rw [e2]
                    rfl
              · have hn0 : N - n = 0 := by omega
                rw [hn0]
                have hp0 : Cs.pairs 0 s' acc = (acc, s') := rfl
                rw [hp0]
                repeat (first | ((first | apply H.move | apply H.nilCheck); (iterate 3 exact rfl)) | (first | apply H.seq | apply H.region | apply H.nil | apply H.then_normal) | ((apply H.cmp); (iterate 5 exact rfl)) | (apply H.pass; (iterate 2 exact rfl)) | ((apply H.pickF); (iterate 4 exact rfl)) | (apply H.cond_false; exact rfl) | (first | apply H.then_exit | apply H.exit | apply H.in_normal | apply H.in_hit | apply H.loop_exit) | (apply H.gno; (iterate 3 exact rfl); (omega)))
                exact H.meet (qp, qc) trivial ⟨rfl, rfl, rfl, rfl, trivial⟩ rfl rfl
            · by_cases hk6 : kind = 6
              · have e := hi6 hk6
                rw [Prod.mk.injEq] at e
                obtain ⟨rfl, rfl⟩ := e
                subst hk6
                have hG : s0.bodyG k8 6 = ({ Bod.zero k8 with k := ((s0.num 8 : Nat) : Int), dig := (s0.skip 8).hash }, (s0.skip 8).skip 32) := by unfold Cs.bodyG; rw [if_pos (by decide)]; rfl
                rw [hG]
                clear hG hi6 hin hz hkd0 hkd
                unfold GEnv
                repeat (first | ((first | apply H.move | apply H.assign); (iterate 3 exact rfl)) | (first | apply H.seq | apply H.region | apply H.nil | apply H.then_normal) | ((apply H.cmp); (iterate 5 exact rfl)) | (apply H.cond_true; exact rfl) | (apply H.cond_false; exact rfl) | (apply H.block))
                refine H.front (.there _ (.here _ _)) ?_
                refine H.callR rfl rfl rfl (rword_cs f _ cb s0 (by omega)) ?_
                repeat (first | ((apply H.move); (iterate 3 exact rfl)) | (apply H.fieldAddr; (iterate 3 exact rfl); exact inferInstance; exact rfl) | (first | apply H.region | apply H.nil | apply H.then_normal) | (apply H.store1; (iterate 4 exact rfl); (repeat (first | exact .here _ _ _ | apply At.there)); (repeat (first | exact .here _ _ _ | apply SetV.there))))
                generalize s0.skip 8 = s1 at hS8 ⊢
                refine H.callR rfl rfl rfl (rdigest_cs f _ cb s1 (by omega)) ?_
                repeat ((apply H.fieldAddr; (iterate 3 exact rfl); exact inferInstance; exact rfl))
                refine H.storeN (vs := b32 s1.hash) (ls' := ({ Bod.zero k8 with k := ((s0.num 8 : Nat) : Int), dig := s1.hash } : Bod).vals none 0) rfl rfl rfl (allOne_mem rfl) rfl rfl ?_ (by repeat (first | exact .here _ _ _ | apply At.there)) ?_
                · exact (show 44 + 32 ≤ 76 by decide)
                repeat (first | (apply H.nil) | (apply H.in_normal))
                refine H.slc0 92 2 ?_
                refine H.front (x := rcutC _ _ _) (by repeat (first | exact .here _ _ | apply Pull.there)) ?_
                refine H.front (x := row xb _ _) (by repeat (first | exact .here _ _ | apply Pull.there)) ?_
                exact H.meet (none, 0) trivial ⟨rfl, rfl, rfl, rfl, trivial⟩ rfl rfl
              · have e := hin hk6
                rw [Prod.mk.injEq] at e
                obtain ⟨rfl, rfl⟩ := e
                have hG : S.bodyG k8 kind = ({ Bod.zero k8 with view := ((S.num 8 : Nat) : Int) }, S.skip 8) := by
                  unfold Cs.bodyG
                  split
                  · rename_i h
                    rcases (show kind = 3 ∨ kind = 5 by omega) with h | h <;> rw [h] <;> rfl
                  · rfl
                rw [hG]
                clear hG hi6 hin hz hkd0 hkd
                unfold GEnv
                repeat (first | ((apply H.assign); (iterate 3 exact rfl)) | (first | apply H.seq | apply H.region | apply H.nil | apply H.then_normal) | ((apply H.cmp); (iterate 5 exact rfl)) | (first | apply H.skip | apply H.block | apply H.in_normal) | (apply H.cond_no; exact rfl; (omega)))
                refine H.slc0 92 2 ?_
                refine H.front (x := rcutC _ _ _) (by repeat (first | exact .here _ _ | apply Pull.there)) ?_
                refine H.front (x := row xb _ _) (by repeat (first | exact .here _ _ | apply Pull.there)) ?_
                exact H.meet (none, 0) trivial ⟨rfl, rfl, rfl, rfl, trivial⟩ rfl rfl
    · by_cases hk6 : kind = 6
      · repeat (first | ((first | apply H.move | apply H.assign | apply H.nilCheck | apply H.len_slice | apply H.len_string | apply H.cap_slice); (iterate 3 exact rfl)) | (apply H.fieldAddr; (iterate 3 exact rfl); exact inferInstance; exact rfl) | (apply H.load1; (iterate 3 exact rfl); apply Rd1.ofRow; (repeat (first | exact .here _ _ _ | apply At.there)); (iterate 2 exact rfl)) | (first | apply H.seq | apply H.region | apply H.nil | apply H.then_normal) | ((first | apply H.cmp | apply H.build); (iterate 5 exact rfl)) | ((first | (apply H.ar; (iterate 4 exact rfl)) | (apply H.conv_int; (iterate 2 exact rfl))); (first | (with_reducible apply wr_i64_s1; omega) | (with_reducible apply wr_i64_n1; omega) | (with_reducible apply wr_i64_nn; omega) | (with_reducible apply wr_i64; omega) | (with_reducible apply wr_u64; omega) | (with_reducible apply wr_u8; omega) | (with_reducible apply wr_u16; omega) | rfl); exact rfl) | (apply H.pass; (iterate 2 exact rfl)) | (apply H.pass0; exact rfl) | (apply H.pickT; (iterate 4 exact rfl)) | ((first | apply H.pickF | apply H.extract | apply H.not | apply H.makeFunc); (iterate 4 exact rfl)) | ((first | apply H.ptrNil | apply H.sliceNil); (iterate 5 exact rfl)) | (apply H.store1; (iterate 4 exact rfl); (repeat (first | exact .here _ _ _ | apply At.there)); (repeat (first | exact .here _ _ _ | apply SetV.there))) | (apply H.cond_true; exact rfl) | (apply H.cond_false; exact rfl) | (first | apply H.skip | apply H.ret | apply H.then_ret | apply H.then_exit | apply H.exit | apply H.block | apply H.in_normal | apply H.in_ret | apply H.in_hit | apply H.loop_ret | apply H.loop_exit) | (apply H.in_miss; exact rfl) | (apply H.gyes; (iterate 3 exact rfl); (first | assumption | omega)) | (apply H.gno; (iterate 3 exact rfl); (first | assumption | omega)) | (apply H.cond_yes; exact rfl; (first | assumption | omega)) | (apply H.cond_no; exact rfl; (first | assumption | omega)) | ((first | apply H.gtrue); (iterate 3 exact rfl); assumption) | (apply H.gfalse; (iterate 3 exact rfl); assumption) | (apply H.cond_t; exact rfl; assumption) | (apply H.cond_f; exact rfl; assumption))
        exact H.meet (0, S) ⟨fun _ => rfl, fun h => absurd hk6 h⟩ ⟨rfl, rfl, rfl, rfl, trivial⟩ rfl rfl
      · repeat (first | ((first | apply H.move | apply H.assign | apply H.nilCheck | apply H.len_slice | apply H.len_string | apply H.cap_slice); (iterate 3 exact rfl)) | (apply H.fieldAddr; (iterate 3 exact rfl); exact inferInstance; exact rfl) | (apply H.load1; (iterate 3 exact rfl); apply Rd1.ofRow; (repeat (first | exact .here _ _ _ | apply At.there)); (iterate 2 exact rfl)) | (first | apply H.seq | apply H.region | apply H.nil | apply H.then_normal) | ((first | apply H.cmp | apply H.build); (iterate 5 exact rfl)) | ((first | (apply H.ar; (iterate 4 exact rfl)) | (apply H.conv_int; (iterate 2 exact rfl))); (first | (with_reducible apply wr_i64_s1; omega) | (with_reducible apply wr_i64_n1; omega) | (with_reducible apply wr_i64_nn; omega) | (with_reducible apply wr_i64; omega) | (with_reducible apply wr_u64; omega) | (with_reducible apply wr_u8; omega) | (with_reducible apply wr_u16; omega) | rfl); exact rfl) | (apply H.pass; (iterate 2 exact rfl)) | (apply H.pass0; exact rfl) | (apply H.pickT; (iterate 4 exact rfl)) | ((first | apply H.pickF | apply H.extract | apply H.not | apply H.makeFunc); (iterate 4 exact rfl)) | ((first | apply H.ptrNil | apply H.sliceNil); (iterate 5 exact rfl)) | (apply H.store1; (iterate 4 exact rfl); (repeat (first | exact .here _ _ _ | apply At.there)); (repeat (first | exact .here _ _ _ | apply SetV.there))) | (apply H.cond_true; exact rfl) | (apply H.cond_false; exact rfl) | (first | apply H.skip | apply H.ret | apply H.then_ret | apply H.then_exit | apply H.exit | apply H.block | apply H.in_normal | apply H.in_ret | apply H.in_hit | apply H.loop_ret | apply H.loop_exit) | (apply H.in_miss; exact rfl) | (apply H.gyes; (iterate 3 exact rfl); (first | assumption | omega)) | (apply H.gno; (iterate 3 exact rfl); (first | assumption | omega)) | (apply H.cond_yes; exact rfl; (first | assumption | omega)) | (apply H.cond_no; exact rfl; (first | assumption | omega)) | ((first | apply H.gtrue); (iterate 3 exact rfl); assumption) | (apply H.gfalse; (iterate 3 exact rfl); assumption) | (apply H.cond_t; exact rfl; assumption) | (apply H.cond_f; exact rfl; assumption))
        refine H.front (x := rcutC _ _ _) (by repeat (first | exact .here _ _ | apply Pull.there)) ?_
        refine H.callR rfl rfl rfl (rword_cs _ _ cb S (by omega)) ?_
        repeat (first | (apply H.fieldAddr; (iterate 3 exact rfl); exact inferInstance; exact rfl) | (apply H.nil) | (apply H.store1; (iterate 4 exact rfl); (repeat (first | exact .here _ _ _ | apply At.there)); (repeat (first | exact .here _ _ _ | apply SetV.there))))
        refine H.front (x := row xb _ _) (by repeat (first | exact .here _ _ | apply Pull.there)) ?_
        exact H.meet (((S.num 8 : Nat) : Int), S.skip 8) ⟨fun h => absurd h hk6, fun _ => rfl⟩ ⟨rfl, rfl, rfl, rfl, trivial⟩ rfl rfl
end
end Go.Proofs.YtcaofnfemogleaaGreatDoor

/- Layer 8, the document: the message of bytes, numbers and a tag; it is the program's. -/
namespace Go.Proofs.YtcaofnfemogleaaGreatDoor
set_option linter.unusedSectionVars false
set_option linter.unusedSimpArgs false
set_option linter.unusedVariables false
open Go
theorem bodyG_ok (s : Cs) (k8 : UInt8) (kind : Nat) : (s.bodyG k8 kind).1.Ok := by
  unfold Cs.bodyG
  split
  · match kind with
    | 0 => exact ⟨zero_ok, zero_ok, zero_ok, zero_ok⟩
    | 1 => exact ⟨s.num8_ok, zero_ok, Cs.num8_ok _, Cs.num8_ok _⟩
    | 2 => exact ⟨s.num8_ok, Cs.num8_ok _, zero_ok, zero_ok⟩
    | 3 => exact ⟨s.num8_ok, zero_ok, zero_ok, zero_ok⟩
    | 4 => exact ⟨s.num8_ok, zero_ok, zero_ok, zero_ok⟩
    | 5 => exact ⟨s.num8_ok, zero_ok, zero_ok, zero_ok⟩
    | 6 => exact ⟨zero_ok, s.num8_ok, zero_ok, zero_ok⟩
    | k + 7 => exact ⟨zero_ok, zero_ok, zero_ok, zero_ok⟩
  · exact ⟨s.num8_ok, zero_ok, zero_ok, zero_ok⟩
theorem bodyG_q (s : Cs) (k8 : UInt8) (kind : Nat) : (s.bodyG k8 kind).1.q.length ≤ 1000 := by
  unfold Cs.bodyG
  split
  · match kind with
    | 0 => exact Nat.zero_le _
    | 1 => exact Nat.zero_le _
    | 2 => exact Nat.zero_le _
    | 3 => exact Nat.zero_le _
    | 4 =>
      have h1 := pairs_len ((s.skip 8).num 1) ((s.skip 8).skip 1) []
      have h2 := (s.skip 8).num1_lt
      show (Cs.pairs ((s.skip 8).num 1) ((s.skip 8).skip 1) []).1.length ≤ 1000
      have h3 : ([] : List (Int × Int)).length = 0 := rfl
      omega
    | 5 => exact Nat.zero_le _
    | 6 => exact Nat.zero_le _
    | k + 7 => exact Nat.zero_le _
  · exact Nat.zero_le _
theorem gmsg_ok (b : List UInt8) : (gmsg b).body.Ok ∧ (gmsg b).body.q.length ≤ 1000 := by
  unfold gmsg gbodyOf
  dsimp only
  exact ⟨bodyG_ok _ _ _, bodyG_q _ _ _⟩
def rgm (n : Int) (b : List UInt8) (t : Nat → UInt8) : Msg := { gmsg b with number := n, tag := t }
def rofOk (i n : Int) (b : List UInt8) (t : Nat → UInt8) : Bool := gok b && (decide ((gmsg b).origin = i) && ((rgm n b t).may && decide ((rgm n b t).bytes = b)))
def rofR (i n : Int) (b : List UInt8) (t : Nat → UInt8) : Msg := if rofOk i n b t = true then rgm n b t else msg0
def rofE (i n : Int) (b : List UInt8) (t : Nat → UInt8) : Int := if rofOk i n b t = true then 0 else 5
/-! ### It is the program's -/
theorem tagged_head {m : Msg} (hm : m.may = true) (ht : m.Typ) (r : List UInt8) :
    orgOf (m.tagged ++ r) = m.origin ∧ v11 (Cs.headD (m.tagged ++ r)) = v11 m.deps ∧ kindOf (m.tagged ++ r) = m.body.kind ∧ Cs.headS (m.tagged ++ r) = ⟨m.body.kind :: (m.body.put ++ r), false⟩ := by
  obtain ⟨h1, h2, h3, _⟩ := tagged_parse hm ht r
  obtain ⟨ho, hn, hd, he, hk⟩ := Msg.may_facts hm ht
  have e : m.tagged ++ r = b8 m.origin :: (depsB m.deps 11 ++ (m.body.kind :: (m.body.put ++ r))) := by simp [Msg.tagged]
  have hdb := deps_back m.deps 11 (m.body.kind :: (m.body.put ++ r)) fun i hi => ⟨(hd i hi).1, by have := (hd i hi).2; omega⟩
  refine ⟨h1, h2, h3, ?_⟩
  unfold Cs.headS
  rw [e, Cs.skip1_b]
  exact hdb.1
theorem tagged_guess {m : Msg} (hm : m.may = true) (ht : m.Typ) : gok m.tagged = true ∧ (gmsg m.tagged).origin = m.origin ∧ ∀ t, Msg.E0 (rgm m.number m.tagged t) m := by
  have h := tagged_head hm ht []
  rw [List.append_nil, List.append_nil] at h
  obtain ⟨h1, h2, h3, h4⟩ := h
  obtain ⟨_, _, _, he, hk⟩ := Msg.may_facts hm ht
  have hb := body_backG ht.1 hk (mk := 65535) (mv := 65535) (by decide) (by decide) []
  rw [List.append_nil] at hb
  have hg : gbodyOf m.tagged = (⟨m.body.put, false⟩ : Cs).bodyK 65535 65535 m.body.kind m.body.kind.toNat := by
    unfold gbodyOf Cs.bodyG
    rw [h3, h4, Cs.skip1_b, if_pos (kind_range hk)]
  rw [← hg] at hb
  refine ⟨?_, ?_, fun t => ?_⟩
  · unfold gok gokB
    rw [hb.2]
    rfl
  · unfold gmsg
    dsimp only
    exact h1
  · unfold rgm gmsg Msg.E0
    dsimp only
    exact ⟨h1, rfl, h2, hb.1.trans he⟩
theorem rgm_typ (n : Int) (b : List UInt8) (t : Nat → UInt8) : (rgm n b t).Typ := by
  refine ⟨(gmsg_ok b).1, fun i hi => ?_⟩
  have key : ∀ (s : Cs) n i, 0 ≤ (s.deps n).1 i := by
    intro s n
    induction n with
    | zero => intro i; exact Int.le_refl 0
    | succ n ih =>
      intro i
      show 0 ≤ setD _ n _ i
      unfold setD
      split
      · exact Int.natCast_nonneg _
      · exact ih i
  show 0 ≤ Cs.headD b i
  unfold Cs.headD
  exact key _ _ _
theorem msgOf_typ (n : Int) (b : List UInt8) (t : Nat → UInt8) : (msgOf n b t).Typ := by
  refine ⟨(msgOf_ok n b t).1, fun i hi => ?_⟩
  have := (rgm_typ n b t).2 i hi
  exact this
theorem kOk_nil : kOk [] = false := by decide
theorem gok_nil : gok [] = false := by decide
theorem rof_eq (i n : Int) (b : List UInt8) (t : Nat → UInt8) : rofOk i n b t = ofOk i n b t ∧ (ofOk i n b t = true → Msg.E (rgm n b t) (msgOf n b t)) := by
  have hto : ofOk i n b t = true → rofOk i n b t = true ∧ Msg.E (rgm n b t) (msgOf n b t) := fun h => by
    have hne : b ≠ [] := by
      rintro rfl
      unfold ofOk at h
      rw [kOk_nil] at h
      cases h
    obtain ⟨h1, h2⟩ := ofOk_may h hne
    have ho := (ofOk_bytes h).1
    have hty := msgOf_typ n b t
    obtain ⟨g1, g2, g3⟩ := tagged_guess h1 hty
    rw [h2] at g1 g2 g3
    have g4 : Msg.E0 (rgm n b t) (msgOf n b t) := g3 t
    refine ⟨?_, g4.1, g4.2.1, g4.2.2.1, g4.2.2.2, rfl⟩
    have e1 : (rgm n b t).may = true := (Msg.may_congr g4).trans h1
    have e2 : (rgm n b t).bytes = b := (Msg.bytes_congr g4).trans (by rw [Msg.bytes_may h1, h2])
    have e3 : (gmsg b).origin = i := g2.trans ho
    unfold rofOk
    rw [g1, decide_eq_true e3, e1, decide_eq_true e2]
    rfl
  have hfro : rofOk i n b t = true → ofOk i n b t = true := fun h => by
    unfold rofOk at h
    simp only [Bool.and_eq_true, decide_eq_true_eq] at h
    obtain ⟨h1, h2, h3, h4⟩ := h
    rw [Msg.bytes_may h3] at h4
    have hp := tagged_parse h3 (rgm_typ n b t) []
    rw [List.append_nil, h4] at hp
    obtain ⟨a1, a2, a3, a4, a5⟩ := hp
    have hk := (Msg.may_facts h3 (rgm_typ n b t)).2.2.2.2
    have hE : Msg.E0 (msgOf n b t) (rgm n b t) := by
      unfold msgOf Msg.E0
      dsimp only
      exact ⟨a1, rfl, a2, a4⟩
    have hby : (msgOf n b t).bytes = b := by
      rw [Msg.bytes_congr hE, Msg.bytes_may h3, h4]
    have k1 : kOk b = true := by
      unfold kOk
      rw [a3]
      exact decide_eq_true (kind_range hk)
    have o1 : orgOf b = i := h2
    unfold ofOk
    rw [k1, decide_eq_true o1, a5, decide_eq_true hby]
    decide
  refine ⟨?_, fun h => (hto h).2⟩
  rw [Bool.eq_iff_iff]
  exact ⟨hfro, fun h => (hto h).1⟩
theorem rof_same (i n : Int) (b : List UInt8) (t : Nat → UInt8) : Msg.eqB (ofR i n b t) (rofR i n b t) = true ∧ rofE i n b t = ofE i n b t := by
  obtain ⟨h1, h2⟩ := rof_eq i n b t
  unfold ofR rofR ofE rofE
  rw [h1]
  by_cases h : ofOk i n b t = true
  · rw [if_pos h, if_pos h]
    exact ⟨Msg.eqB_iff.2 (h2 h).symm, rfl⟩
  · rw [if_neg h, if_neg h]
    exact ⟨Msg.eqB_refl _, rfl⟩
theorem rofR_ok (i n : Int) (b : List UInt8) (t : Nat → UInt8) : (rofR i n b t).body.Ok ∧ (rofR i n b t).body.q.length ≤ 1000 := by
  unfold rofR
  split
  · exact gmsg_ok b
  · exact ⟨⟨zero_ok, zero_ok, zero_ok, zero_ok⟩, Nat.zero_le _⟩
theorem ofR_ok (i n : Int) (b : List UInt8) (t : Nat → UInt8) : (ofR i n b t).body.Ok ∧ (ofR i n b t).body.q.length ≤ 1000 := by
  unfold ofR
  split
  · exact msgOf_ok n b t
  · exact ⟨⟨zero_ok, zero_ok, zero_ok, zero_ok⟩, Nat.zero_le _⟩
section
variable (f : Frag) (F : List HP)
theorem H.weakG {P : Program} {base : World} {n : Nat} {L : Env} {f g : Frag} {A : List HP} {K : Kont} (h : Le f g) (k : H P base n L f A K) : H P base n L g A K := .mk fun a w hf s => k.out a w hf (s.weak h)
set_option maxHeartbeats 1600000 in
set_option maxRecDepth 20000 in
theorem rof_fn {i n : Int} {p : Option Addr} {c : Nat} {b : List UInt8} {t : Nat → UInt8} (hb : BAt f p b) (hc : b.length ≤ c) (hl : b.length ≤ 100000000) :
    Fn Tryz.prog 10 [.int .i64 i, .int .u64 n, .slice p b.length c, .agg (b32 t).toArray] f F (RetE (fun j : Option Addr × Nat => .tuple #[.agg ((rofR i n b t).vals j.1 j.2).toArray, .int .i64 (rofE i n b t)]) f (fun j => qs j.1 j.2 (rofR i n b t).body.q :: F)) := by
  have hpn : p = none → b = [] := fun hp => by
    rcases hb with h | ⟨b', off, cs, T, fr, h, _⟩
    · exact h
    · rw [hp] at h; cases h
  have hgq := gmsg_ok b
  have hgs := fun G => rguess_fn f G hb hc hl
  obtain ⟨M, hM⟩ : ∃ M, M = rgm n b t := ⟨_, rfl⟩
  have hR : rofR i n b t = if rofOk i n b t = true then M else msg0 := by unfold rofR; rw [hM]
  have hE : rofE i n b t = if rofOk i n b t = true then 0 else 5 := rfl
  have hO : rofOk i n b t = (gok b && (decide ((gmsg b).origin = i) && (M.may && decide (M.bytes = b)))) := by unfold rofOk; rw [hM]
  rw [hR, hE]
  clear hR hE
  generalize rofOk i n b t = okb at hO ⊢
  have hM2 : M = { gmsg b with number := n, tag := t } := hM
  clear hM
  generalize gmsg b = gm at hgs hgq hM2 hO
  generalize gok b = gk at hgs hO
  have hMb : M.body = gm.body := by rw [hM2]
  have hMo : M.origin = gm.origin := by rw [hM2]
  rw [← hMo] at hO
  refine Fn.enter Tryz.func10 rfl Tryz.ntmps10 rfl (L := [(0, _), (1, _), (2, _), (3, _)]) ⟨rfl, rfl, rfl, rfl, trivial⟩ fun base => ?_
  repeat ((first | apply H.seq | apply H.region))
  refine H.box (ls := b32 t) rfl rfl rfl rfl fun tb => ?_
  refine H.alloc (ls := msg0.vals none 0) rfl rfl rfl fun ob => ?_
  repeat (first | ((first | apply H.move | apply H.assign); (iterate 3 exact rfl)) | (first | apply H.seq | apply H.region | apply H.nil | apply H.then_normal))
  refine H.callE rfl rfl rfl (hgs _) fun j => ?_
  repeat (first | ((apply H.move); (iterate 3 exact rfl)) | ((apply H.extract); (iterate 4 exact rfl)))
  refine H.alloc (ls := msg0.vals none 0) rfl rfl rfl fun mb => ?_
  refine H.storeN (ls := msg0.vals none 0) (vs := gm.vals j.1 j.2) (ls' := gm.vals j.1 j.2) rfl rfl rfl (allOne_mem rfl) rfl (splice_all rfl) (by rw [Msg.vals_len, Msg.vals_len]; decide) (.here _ _ _) ?_
  repeat (first | (refine H.store1 (ls' := ({ gm with number := n } : Msg).vals j.1 j.2) rfl rfl rfl rfl (.here _ _ _) (by repeat (first | exact .here _ _ _ | apply SetV.there)) ?_) | ((first | apply H.move | apply H.assign); (iterate 3 exact rfl)) | (apply H.fieldAddr; (iterate 3 exact rfl); exact inferInstance; exact rfl) | (first | apply H.seq | apply H.region | apply H.nil | apply H.then_normal))
  refine H.loadN (ls := b32 t) rfl rfl rfl (Rd.ofRow (by repeat (first | exact .here _ _ _ | apply At.there))) rfl rfl ?_
  repeat ((apply H.fieldAddr; (iterate 3 exact rfl); exact inferInstance; exact rfl))
  refine H.storeN (vs := b32 t) (ls' := M.vals j.1 j.2) rfl rfl rfl (allOne_mem rfl) rfl (by rw [hM2]; rfl) (by show 0 + 89 + 32 ≤ 121; decide) (.here _ _ _) ?_
  refine H.freeze (x := qs _ _ _) (by repeat (first | exact .here _ _ | apply Pull.there)) fun g hg hd => ?_
  have hgood : (⟨M, j.1, j.2⟩ : MV).Good (un f g) := by
    refine ⟨?_, ?_, ?_⟩
    · show QAt _ _ M.body.q
      rw [hMb]; exact qs_qat hg hd
    · show M.body.q.length ≤ _
      rw [hMb]; have := hgq.2; omega
    · show M.body.Ok
      rw [hMb]; exact hgq.1
  have hmay := fun G => rmmay_fn (un f g) G hgood
  have hby := fun G => rbytes_fn (m := M) (q := j.1) (qc := j.2) (un f g) G hgood.1 (by have := hgood.2.1; have e : (⟨M, j.1, j.2⟩ : MV).m = M := rfl; rw [e] at this; omega)
  rw [show (⟨M, j.1, j.2⟩ : MV).m = M from rfl] at hmay
  have hbg := BAt.mono (Le.un f g) hb
  have hqM : qs j.1 j.2 M.body.q g := by rw [hMb]; exact hg
  clear hgs hgq hM2 hMb hMo hgood hb hg
  generalize hvb : M.bytes = vb at hby hO
  generalize hvm : M.may = vm at hmay hO
  cases gk with
  | false =>
    have hok : okb = false := by rw [hO]; simp
    subst hok
    clear hO
    rw [if_neg Bool.false_ne_true, if_neg Bool.false_ne_true]
    repeat ((first | apply H.seq | apply H.nil | apply H.then_normal))
    refine H.front (x := row mb _ _) (by repeat (first | exact .here _ _ | apply Pull.there)) ?_
    refine H.drawB (by kernel_rfl) (by decide +kernel) (by first | exact blind_fn | exact blind_seq blind_fn | exact blind_seq (blind_seq blind_fn) | (repeat (first | exact blind_fn | refine blind_seq ?_ | refine blind_block ?_ | refine blind_loop ?_))) (S := [_]) rfl ?_
    refine HB.quiet [(0, false), (1, false), (2, false), (3, false), (4, false), (5, false), (6, false), (7, false), (8, false), (9, false)] 11 (by kernel_rfl) ?_
    repeat (first | ((apply HQ.move); (iterate 3 exact rfl)) | (apply HQ.pass; (iterate 2 exact rfl)) | (apply HQ.pickT; (iterate 4 exact rfl)) | ((apply HQ.not); (iterate 4 exact rfl)))
    refine HQ.more rfl ?_
    refine HB.ev1 (i := 10) (by kernel_rfl) rfl ?_
    repeat (first | (apply H.nil) | (apply H.pass; (iterate 2 exact rfl)))
    refine H.on0 rfl ?_
    refine HB.quiet [(11, false), (12, false), (13, false), (14, false), (17, false), (18, false)] 4 (by kernel_rfl) ?_
    repeat (first | ((apply HQ.move); (iterate 3 exact rfl)) | (apply HQ.pass; (iterate 2 exact rfl)) | (apply HQ.pickT; (iterate 4 exact rfl)))
    refine HQ.more rfl ?_
    refine HB.ev1 (i := 15) (by kernel_rfl) rfl ?_
    repeat (first | (apply H.nil) | (apply H.pass; (iterate 2 exact rfl)))
    refine H.on0 rfl ?_
    refine HB.quiet [(16, false), (19, false), (20, false)] 0 (by kernel_rfl) ?_
    repeat (first | (apply HQ.pass; (iterate 2 exact rfl)) | (apply HQ.pickT; (iterate 4 exact rfl)))
    refine HQ.more rfl ?_
    refine HB.done (by kernel_rfl) ?_
    repeat (first | (refine H.build (t := 36) (out := msg0.vals none 0) rfl rfl rfl (by kernel_rfl) rfl ?_) | (first | apply H.seq | apply H.region | apply H.then_normal) | (apply H.cond_true; exact rfl))
    refine H.front (x := row ob _ _) (by repeat (first | exact .here _ _ | apply Pull.there)) ?_
    refine H.storeN (ls := msg0.vals none 0) (vs := msg0.vals none 0) (ls' := msg0.vals none 0) rfl rfl rfl (allOne_mem rfl) rfl (splice_all rfl) (by rw [Msg.vals_len]; decide) (.here _ _ _) ?_
    repeat (first | ((apply H.assign); (iterate 3 exact rfl)) | (first | apply H.nil | apply H.then_normal) | (first | apply H.ret | apply H.then_ret))
    refine H.weakG (Le.un f g) ?_
    repeat refine H.drop (.there _ (.here _ _)) ?_
    refine H.slc0 92 2 ?_
    exact H.retCT rfl rfl rfl rfl (Rd.ofRow (.there _ (.here _ _ _))) rfl (fun _ s => s.drop (.there _ (.here _ _))) ⟨(none, 0), rfl, rfl, rfl⟩
  | true =>
    by_cases ho : M.origin = i
    · cases vm with
      | false =>
        have hok : okb = false := by rw [hO]; simp
        subst hok
        clear hO
        rw [if_neg Bool.false_ne_true, if_neg Bool.false_ne_true]
        repeat ((first | apply H.seq | apply H.nil | apply H.then_normal))
        refine H.front (x := row mb _ _) (by repeat (first | exact .here _ _ | apply Pull.there)) ?_
        refine H.drawB (by kernel_rfl) (by decide +kernel) (by first | exact blind_fn | exact blind_seq blind_fn | exact blind_seq (blind_seq blind_fn) | (repeat (first | exact blind_fn | refine blind_seq ?_ | refine blind_block ?_ | refine blind_loop ?_))) (S := [_]) rfl ?_
        refine HB.quiet [(0, false), (1, false), (2, false), (3, false), (4, false), (5, false), (6, false), (7, false), (8, false), (9, false)] 11 (by kernel_rfl) ?_
        repeat (first | ((apply HQ.move); (iterate 3 exact rfl)) | (apply HQ.fieldAddr; (iterate 3 exact rfl); exact inferInstance; exact rfl) | (apply HQ.load1; (iterate 3 exact rfl); apply Rd1.ofRow; (repeat (exact .here _ _ _)); (iterate 2 exact rfl)) | ((apply HQ.cmp); (iterate 5 exact rfl)) | ((first | apply HQ.pickF | apply HQ.not); (iterate 4 exact rfl)) | (apply HQ.gno; (iterate 3 exact rfl); (omega)) | (refine HQ.loadN (ls := M.vals j.1 j.2) rfl rfl rfl (Rd.ofRow (.here _ _ _)) rfl rfl ?_))
        refine HQ.more rfl ?_
        refine HB.ev1 (i := 10) (by kernel_rfl) rfl ?_
        repeat (first | (apply H.nil) | (refine H.callR rfl rfl rfl (hmay _) ?_))
        refine H.on0 rfl ?_
        refine HB.quiet [(11, false), (12, false), (13, false), (14, false), (17, false), (18, false)] 4 (by kernel_rfl) ?_
        repeat (first | ((apply HQ.move); (iterate 3 exact rfl)) | (apply HQ.pass; (iterate 2 exact rfl)) | ((first | apply HQ.pickF | apply HQ.not); (iterate 4 exact rfl)))
        refine HQ.more rfl ?_
        refine HB.ev1 (i := 15) (by kernel_rfl) rfl ?_
        repeat (first | (apply H.nil) | (apply H.pass; (iterate 2 exact rfl)))
        refine H.on0 rfl ?_
        refine HB.quiet [(16, false), (19, false), (20, false)] 0 (by kernel_rfl) ?_
        repeat (first | (apply HQ.pass; (iterate 2 exact rfl)) | (apply HQ.pickT; (iterate 4 exact rfl)))
        refine HQ.more rfl ?_
        refine HB.done (by kernel_rfl) ?_
        repeat (first | (refine H.build (t := 36) (out := msg0.vals none 0) rfl rfl rfl (by kernel_rfl) rfl ?_) | (first | apply H.seq | apply H.region | apply H.then_normal) | (apply H.cond_true; exact rfl))
        refine H.front (x := row ob _ _) (by repeat (first | exact .here _ _ | apply Pull.there)) ?_
        refine H.storeN (ls := msg0.vals none 0) (vs := msg0.vals none 0) (ls' := msg0.vals none 0) rfl rfl rfl (allOne_mem rfl) rfl (splice_all rfl) (by rw [Msg.vals_len]; decide) (.here _ _ _) ?_
        repeat (first | ((apply H.assign); (iterate 3 exact rfl)) | (first | apply H.nil | apply H.then_normal) | (first | apply H.ret | apply H.then_ret))
        refine H.weakG (Le.un f g) ?_
        repeat refine H.drop (.there _ (.here _ _)) ?_
        refine H.slc0 92 2 ?_
        exact H.retCT rfl rfl rfl rfl (Rd.ofRow (.there _ (.here _ _ _))) rfl (fun _ s => s.drop (.there _ (.here _ _))) ⟨(none, 0), rfl, rfl, rfl⟩
      | true =>
        by_cases hbb : vb = b
        · have hok : okb = true := by rw [hO]; simp [ho, hbb]
          subst hok
          clear hO
          rw [if_pos rfl, if_pos rfl]
          have hsc : (!((⟨vb.toArray⟩ : ByteArray).toList == (⟨b.toArray⟩ : ByteArray).toList)) = false := by rw [hbb, beq_self_eq_true]; rfl
          repeat ((first | apply H.seq | apply H.nil | apply H.then_normal))
          refine H.front (x := row mb _ _) (by repeat (first | exact .here _ _ | apply Pull.there)) ?_
          refine H.drawB (by kernel_rfl) (by decide +kernel) (by first | exact blind_fn | exact blind_seq blind_fn | exact blind_seq (blind_seq blind_fn) | (repeat (first | exact blind_fn | refine blind_seq ?_ | refine blind_block ?_ | refine blind_loop ?_))) (S := [_]) rfl ?_
          refine HB.quiet [(0, false), (1, false), (2, false), (3, false), (4, false), (5, false), (6, false), (7, false), (8, false), (9, false)] 11 (by kernel_rfl) ?_
          repeat (first | ((apply HQ.move); (iterate 3 exact rfl)) | (apply HQ.fieldAddr; (iterate 3 exact rfl); exact inferInstance; exact rfl) | (apply HQ.load1; (iterate 3 exact rfl); apply Rd1.ofRow; (repeat (exact .here _ _ _)); (iterate 2 exact rfl)) | ((apply HQ.cmp); (iterate 5 exact rfl)) | ((first | apply HQ.pickF | apply HQ.not); (iterate 4 exact rfl)) | (apply HQ.gno; (iterate 3 exact rfl); (omega)) | (refine HQ.loadN (ls := M.vals j.1 j.2) rfl rfl rfl (Rd.ofRow (.here _ _ _)) rfl rfl ?_))
          refine HQ.more rfl ?_
          refine HB.ev1 (i := 10) (by kernel_rfl) rfl ?_
          repeat (first | (apply H.nil) | (refine H.callR rfl rfl rfl (hmay _) ?_))
          refine H.on0 rfl ?_
          refine HB.quiet [(11, false), (12, false), (13, false), (14, false), (17, false), (18, false)] 4 (by kernel_rfl) ?_
          repeat (first | ((apply HQ.move); (iterate 3 exact rfl)) | ((first | apply HQ.pickF | apply HQ.not); (iterate 4 exact rfl)) | (refine HQ.loadN (ls := M.vals j.1 j.2) rfl rfl rfl (Rd.ofRow (.here _ _ _)) rfl rfl ?_) | (refine HQ.convBS rfl rfl hbg.src hpn rfl ?_))
          refine HQ.more rfl ?_
          refine HB.ev1 (i := 15) (by kernel_rfl) rfl ?_
          skip
          refine H.callE2 rfl rfl rfl (hby _) fun p1 c1 => ?_
          repeat ((apply H.nil))
          refine H.slc_none (.here _ _ _) fun hp1 => ?_
          refine H.front (x := row mb _ _) (by repeat (first | exact .here _ _ | apply Pull.there)) ?_
          refine H.on [_] (Le.refl _) rfl ?_
          refine HB.quiet [(16, false), (19, false), (20, false)] 0 (by kernel_rfl) ?_
          refine HQ.convBS rfl rfl (Src.slcS (.there _ (.here _ _ _)) (by rw [bytesV_len]; exact (Nat.mul_one _).symm)) (fun h => List.eq_nil_of_length_eq_zero (hp1 h)) rfl ?_
          refine HQ.streq (c := false) rfl rfl rfl rfl hsc rfl ?_
          repeat (((apply HQ.pickF); (iterate 4 exact rfl)))
          refine HQ.more rfl ?_
          refine HB.done (by kernel_rfl) ?_
          repeat (first | (first | apply H.seq | apply H.region | apply H.then_normal) | (apply H.cond_false; exact rfl) | (apply H.skip))
          refine H.loadN (ls := M.vals j.1 j.2) rfl rfl rfl (Rd.ofRow (.here _ _ _)) rfl rfl ?_
          refine H.front (x := row ob _ _) (by repeat (first | exact .here _ _ | apply Pull.there)) ?_
          refine H.storeN (ls := msg0.vals none 0) (vs := M.vals j.1 j.2) (ls' := M.vals j.1 j.2) rfl rfl rfl (allOne_mem rfl) rfl (splice_all rfl) (by rw [Msg.vals_len, Msg.vals_len]; decide) (.here _ _ _) ?_
          repeat (first | ((apply H.assign); (iterate 3 exact rfl)) | (first | apply H.nil | apply H.then_normal) | (apply H.ret))
          repeat refine H.drop (.there _ (.here _ _)) ?_
          refine H.thaw hqM hd ?_
          exact H.retCT rfl rfl rfl rfl (Rd.ofRow (.there _ (.here _ _ _))) rfl (fun _ s => s.drop (.there _ (.here _ _))) ⟨j, rfl, rfl, rfl⟩
        · have hok : okb = false := by rw [hO]; simp [hbb]
          subst hok
          clear hO
          rw [if_neg Bool.false_ne_true, if_neg Bool.false_ne_true]
          have hsc : (!((⟨vb.toArray⟩ : ByteArray).toList == (⟨b.toArray⟩ : ByteArray).toList)) = true := by
            rw [ByteArray.toList_eq, ByteArray.toList_eq]
            have : (vb == b) = false := by rw [beq_eq_false_iff_ne]; exact hbb
            simpa using this
          repeat ((first | apply H.seq | apply H.nil | apply H.then_normal))
          refine H.front (x := row mb _ _) (by repeat (first | exact .here _ _ | apply Pull.there)) ?_
          refine H.drawB (by kernel_rfl) (by decide +kernel) (by first | exact blind_fn | exact blind_seq blind_fn | exact blind_seq (blind_seq blind_fn) | (repeat (first | exact blind_fn | refine blind_seq ?_ | refine blind_block ?_ | refine blind_loop ?_))) (S := [_]) rfl ?_
          refine HB.quiet [(0, false), (1, false), (2, false), (3, false), (4, false), (5, false), (6, false), (7, false), (8, false), (9, false)] 11 (by kernel_rfl) ?_
          repeat (first | ((apply HQ.move); (iterate 3 exact rfl)) | (apply HQ.fieldAddr; (iterate 3 exact rfl); exact inferInstance; exact rfl) | (apply HQ.load1; (iterate 3 exact rfl); apply Rd1.ofRow; (repeat (exact .here _ _ _)); (iterate 2 exact rfl)) | ((apply HQ.cmp); (iterate 5 exact rfl)) | ((first | apply HQ.pickF | apply HQ.not); (iterate 4 exact rfl)) | (apply HQ.gno; (iterate 3 exact rfl); (omega)) | (refine HQ.loadN (ls := M.vals j.1 j.2) rfl rfl rfl (Rd.ofRow (.here _ _ _)) rfl rfl ?_))
          refine HQ.more rfl ?_
          refine HB.ev1 (i := 10) (by kernel_rfl) rfl ?_
          repeat (first | (apply H.nil) | (refine H.callR rfl rfl rfl (hmay _) ?_))
          refine H.on0 rfl ?_
          refine HB.quiet [(11, false), (12, false), (13, false), (14, false), (17, false), (18, false)] 4 (by kernel_rfl) ?_
          repeat (first | ((apply HQ.move); (iterate 3 exact rfl)) | ((first | apply HQ.pickF | apply HQ.not); (iterate 4 exact rfl)) | (refine HQ.loadN (ls := M.vals j.1 j.2) rfl rfl rfl (Rd.ofRow (.here _ _ _)) rfl rfl ?_) | (refine HQ.convBS rfl rfl hbg.src hpn rfl ?_))
          refine HQ.more rfl ?_
          refine HB.ev1 (i := 15) (by kernel_rfl) rfl ?_
          skip
          refine H.callE2 rfl rfl rfl (hby _) fun p1 c1 => ?_
          repeat ((apply H.nil))
          refine H.slc_none (.here _ _ _) fun hp1 => ?_
          refine H.front (x := row mb _ _) (by repeat (first | exact .here _ _ | apply Pull.there)) ?_
          refine H.on [_] (Le.refl _) rfl ?_
          refine HB.quiet [(16, false), (19, false), (20, false)] 0 (by kernel_rfl) ?_
          refine HQ.convBS rfl rfl (Src.slcS (.there _ (.here _ _ _)) (by rw [bytesV_len]; exact (Nat.mul_one _).symm)) (fun h => List.eq_nil_of_length_eq_zero (hp1 h)) rfl ?_
          refine HQ.streq (c := true) rfl rfl rfl rfl hsc rfl ?_
          repeat (((apply HQ.pickF); (iterate 4 exact rfl)))
          refine HQ.more rfl ?_
          refine HB.done (by kernel_rfl) ?_
          repeat (first | (refine H.build (t := 36) (out := msg0.vals none 0) rfl rfl rfl (by kernel_rfl) rfl ?_) | (first | apply H.seq | apply H.region | apply H.then_normal) | (apply H.cond_true; exact rfl))
          refine H.front (x := row ob _ _) (by repeat (first | exact .here _ _ | apply Pull.there)) ?_
          refine H.storeN (ls := msg0.vals none 0) (vs := msg0.vals none 0) (ls' := msg0.vals none 0) rfl rfl rfl (allOne_mem rfl) rfl (splice_all rfl) (by rw [Msg.vals_len]; decide) (.here _ _ _) ?_
          repeat (first | ((apply H.assign); (iterate 3 exact rfl)) | (first | apply H.nil | apply H.then_normal) | (first | apply H.ret | apply H.then_ret))
          refine H.weakG (Le.un f g) ?_
          repeat refine H.drop (.there _ (.here _ _)) ?_
          refine H.slc0 92 2 ?_
          exact H.retCT rfl rfl rfl rfl (Rd.ofRow (.there _ (.here _ _ _))) rfl (fun _ s => s.drop (.there _ (.here _ _))) ⟨(none, 0), rfl, rfl, rfl⟩
    · have hok : okb = false := by rw [hO]; simp [ho]
      subst hok
      clear hO
      rw [if_neg Bool.false_ne_true, if_neg Bool.false_ne_true]
      repeat ((first | apply H.seq | apply H.nil | apply H.then_normal))
      refine H.front (x := row mb _ _) (by repeat (first | exact .here _ _ | apply Pull.there)) ?_
      refine H.drawB (by kernel_rfl) (by decide +kernel) (by first | exact blind_fn | exact blind_seq blind_fn | exact blind_seq (blind_seq blind_fn) | (repeat (first | exact blind_fn | refine blind_seq ?_ | refine blind_block ?_ | refine blind_loop ?_))) (S := [_]) rfl ?_
      refine HB.quiet [(0, false), (1, false), (2, false), (3, false), (4, false), (5, false), (6, false), (7, false), (8, false), (9, false)] 11 (by kernel_rfl) ?_
      repeat (first | ((apply HQ.move); (iterate 3 exact rfl)) | (apply HQ.fieldAddr; (iterate 3 exact rfl); exact inferInstance; exact rfl) | (apply HQ.load1; (iterate 3 exact rfl); apply Rd1.ofRow; (repeat (exact .here _ _ _)); (iterate 2 exact rfl)) | ((apply HQ.cmp); (iterate 5 exact rfl)) | (apply HQ.pass; (iterate 2 exact rfl)) | ((first | apply HQ.pickF | apply HQ.not); (iterate 4 exact rfl)) | (apply HQ.gyes; (iterate 3 exact rfl); (assumption)))
      refine HQ.more rfl ?_
      refine HB.ev1 (i := 10) (by kernel_rfl) rfl ?_
      repeat (first | (apply H.nil) | (apply H.pass; (iterate 2 exact rfl)))
      refine H.on0 rfl ?_
      refine HB.quiet [(11, false), (12, false), (13, false), (14, false), (17, false), (18, false)] 4 (by kernel_rfl) ?_
      repeat (first | ((apply HQ.move); (iterate 3 exact rfl)) | (apply HQ.pass; (iterate 2 exact rfl)) | (apply HQ.pickT; (iterate 4 exact rfl)))
      refine HQ.more rfl ?_
      refine HB.ev1 (i := 15) (by kernel_rfl) rfl ?_
      repeat (first | (apply H.nil) | (apply H.pass; (iterate 2 exact rfl)))
      refine H.on0 rfl ?_
      refine HB.quiet [(16, false), (19, false), (20, false)] 0 (by kernel_rfl) ?_
      repeat (first | (apply HQ.pass; (iterate 2 exact rfl)) | (apply HQ.pickT; (iterate 4 exact rfl)))
      refine HQ.more rfl ?_
      refine HB.done (by kernel_rfl) ?_
      repeat (first | (refine H.build (t := 36) (out := msg0.vals none 0) rfl rfl rfl (by kernel_rfl) rfl ?_) | (first | apply H.seq | apply H.region | apply H.then_normal) | (apply H.cond_true; exact rfl))
      refine H.front (x := row ob _ _) (by repeat (first | exact .here _ _ | apply Pull.there)) ?_
      refine H.storeN (ls := msg0.vals none 0) (vs := msg0.vals none 0) (ls' := msg0.vals none 0) rfl rfl rfl (allOne_mem rfl) rfl (splice_all rfl) (by rw [Msg.vals_len]; decide) (.here _ _ _) ?_
      repeat (first | ((apply H.assign); (iterate 3 exact rfl)) | (first | apply H.nil | apply H.then_normal) | (first | apply H.ret | apply H.then_ret))
      refine H.weakG (Le.un f g) ?_
      repeat refine H.drop (.there _ (.here _ _)) ?_
      refine H.slc0 92 2 ?_
      exact H.retCT rfl rfl rfl rfl (Rd.ofRow (.there _ (.here _ _ _))) rfl (fun _ s => s.drop (.there _ (.here _ _))) ⟨(none, 0), rfl, rfl, rfl⟩
end
end Go.Proofs.YtcaofnfemogleaaGreatDoor

/- Layer 8: MessageSizes. Condition: the table of the standard stands in the fragment. -/
namespace Go.Proofs.YtcaofnfemogleaaGreatDoor
set_option linter.unusedSectionVars false
set_option linter.unusedSimpArgs false
set_option linter.unusedVariables false
open Go
theorem row_bop {f : Frag} {A A' : List HP} {mb : Nat} {T : TypeId} {m : Msg} {q : Option Addr} {qc : Nat} (h : At A (row mb T (m.vals q qc)) A' (row mb T (m.vals q qc))) : Rd f A mb (0 + 13 + 3 + 2) [.int .u8 (m.body.req.kind.toNat : Nat), .string m.body.req.key, .string m.body.req.val, .string m.body.req.old, .string m.body.req.to, .int .u64 m.body.req.amount] := by
  have h1 := Rd.ofRow (f := f) h
  have e : m.vals q qc = ([.int .i64 m.origin, .int .u64 m.number] ++ v11 m.deps ++ [.int .u8 (m.body.kind.toNat : Nat), .int .u64 m.body.view, .int .u64 m.body.k, .int .i64 m.body.req.client, .int .u64 m.body.req.time]) ++ [.int .u8 (m.body.req.kind.toNat : Nat), .string m.body.req.key, .string m.body.req.val, .string m.body.req.old, .string m.body.req.to, .int .u64 m.body.req.amount] ++ (b32 m.body.req.tag ++ [.slice q m.body.q.length qc] ++ b32 m.body.dig ++ b32 m.tag) := rfl
  rw [e] at h1
  exact h1.sub rfl
def opV (r : Req) : List Value := [.int .u8 (r.kind.toNat : Nat), .string r.key, .string r.val, .string r.old, .string r.to, .int .u64 r.amount]
section
variable (f : Frag) (F : List HP)
theorem few08_fn (x : MV) : ∃ fb : Bool, (fb = true → x.m.body.q.length ≤ 40) ∧ ∀ f F, Fn Tryz.prog 18 [.agg x.vals.toArray] f F (Ret (.bool fb) f F) := by
  by_cases h : x.m.body.q.length ≤ 40
  · refine ⟨decide (IntKind.i64.wrap (IntKind.i64.wrap (IntKind.i64.wrap ((x.m.body.req.key.size : Int) + x.m.body.req.val.size) + x.m.body.req.old.size) + x.m.body.req.to.size) ≤ 4096), fun _ => h, fun f F => ?_⟩
    · refine Fn.enter Tryz.func18 rfl Tryz.ntmps18 rfl (L := [(0, _)]) ⟨rfl, trivial⟩ fun base => ?_
      repeat (first | (refine H.loadN (ls := opV x.m.body.req) rfl rfl rfl (row_bop (m := x.m) (q := x.qp) (qc := x.qc) (by repeat (first | exact .here _ _ _ | apply At.there))) rfl rfl ?_) | (refine H.box (ls := x.vals) rfl rfl rfl rfl fun mb => ?_) | (refine H.alloc (ls := opV Req.zero) rfl rfl rfl fun ob => ?_) | ((apply H.assign); (iterate 3 exact rfl)) | (apply H.fieldAddr; (iterate 3 exact rfl); exact inferInstance; exact rfl) | (first | apply H.seq | apply H.region | apply H.nil | apply H.then_normal))
      refine H.storeN (ls := opV Req.zero) (vs := opV x.m.body.req) (ls' := opV x.m.body.req) rfl rfl rfl (allOne_mem rfl) rfl rfl (Nat.le_refl 6) (by repeat (first | exact .here _ _ _ | apply At.there)) ?_
      repeat (first | ((first | apply H.move | apply H.assign | apply H.len_slice | apply H.len_string); (iterate 3 exact rfl)) | (apply H.fieldAddr; (iterate 3 exact rfl); exact inferInstance; exact rfl) | (apply H.load1; (iterate 3 exact rfl); apply Rd1.ofRow; (repeat (first | exact .here _ _ _ | apply At.there)); (iterate 2 exact rfl)) | (first | apply H.seq | apply H.region | apply H.nil | apply H.then_normal) | ((apply H.cmp); (iterate 5 exact rfl)) | ((apply H.ar; (iterate 4 exact rfl)); (rfl); exact rfl) | (apply H.pickT; (iterate 4 exact rfl)) | (apply H.ret) | (apply H.gyes; (iterate 3 exact rfl); (omega)))
      refine H.drop (.here _ _) ?_
      refine H.drop (.here _ _) ?_
      exact H.ret1 rfl rfl (fun _ h => h) ⟨rfl, rfl, rfl⟩
  · refine ⟨false, fun h => (by cases h), fun f F => ?_⟩
    refine Fn.enter Tryz.func18 rfl Tryz.ntmps18 rfl (L := [(0, _)]) ⟨rfl, trivial⟩ fun base => ?_
    repeat (first | (refine H.loadN (ls := opV x.m.body.req) rfl rfl rfl (row_bop (m := x.m) (q := x.qp) (qc := x.qc) (by repeat (first | exact .here _ _ _ | apply At.there))) rfl rfl ?_) | (refine H.box (ls := x.vals) rfl rfl rfl rfl fun mb => ?_) | (refine H.alloc (ls := opV Req.zero) rfl rfl rfl fun ob => ?_) | ((apply H.assign); (iterate 3 exact rfl)) | (apply H.fieldAddr; (iterate 3 exact rfl); exact inferInstance; exact rfl) | (first | apply H.seq | apply H.region | apply H.nil | apply H.then_normal))
    refine H.storeN (ls := opV Req.zero) (vs := opV x.m.body.req) (ls' := opV x.m.body.req) rfl rfl rfl (allOne_mem rfl) rfl rfl (Nat.le_refl 6) (by repeat (first | exact .here _ _ _ | apply At.there)) ?_
    repeat (first | ((first | apply H.move | apply H.assign | apply H.len_slice | apply H.len_string); (iterate 3 exact rfl)) | (apply H.fieldAddr; (iterate 3 exact rfl); exact inferInstance; exact rfl) | (apply H.load1; (iterate 3 exact rfl); apply Rd1.ofRow; (repeat (first | exact .here _ _ _ | apply At.there)); (iterate 2 exact rfl)) | (first | apply H.seq | apply H.region | apply H.nil | apply H.then_normal) | ((apply H.cmp); (iterate 5 exact rfl)) | (apply H.pass; (iterate 2 exact rfl)) | ((apply H.pickF); (iterate 4 exact rfl)) | (apply H.ret) | (apply H.gno; (iterate 3 exact rfl); (omega)))
    refine H.drop (.here _ _) ?_
    refine H.drop (.here _ _) ?_
    exact H.ret1 rfl rfl (fun _ h => h) ⟨rfl, rfl, rfl⟩
end
end Go.Proofs.YtcaofnfemogleaaGreatDoor

/- Layer 8: the document's message of all its bytes; MessageGets. Condition: the table of the standard stands in the fragment. -/
namespace Go.Proofs.YtcaofnfemogleaaGreatDoor
set_option linter.unusedSectionVars false
set_option linter.unusedSimpArgs false
set_option linter.unusedVariables false
open Go
def rgetR (b : List UInt8) : Msg := if 41 ≤ b.length then rofR (fstOf b) (numOf b) (ownOf b) (tagOf b) else msg0
def rgetE (b : List UInt8) : Int := if 41 ≤ b.length then rofE (fstOf b) (numOf b) (ownOf b) (tagOf b) else 5
theorem rget_same (b : List UInt8) : Msg.eqB (getR b) (rgetR b) = true ∧ rgetE b = getE b := by
  unfold getR rgetR getE rgetE
  by_cases h : 41 ≤ b.length
  · rw [if_pos h, if_pos h, if_pos h, if_pos h]; exact rof_same _ _ _ _
  · rw [if_neg h, if_neg h, if_neg h, if_neg h]; exact ⟨Msg.eqB_refl _, rfl⟩
theorem rgetR_ok (b : List UInt8) : (rgetR b).body.Ok ∧ (rgetR b).body.q.length ≤ 1000 := by
  unfold rgetR
  split
  · exact rofR_ok _ _ _ _
  · exact ⟨⟨zero_ok, zero_ok, zero_ok, zero_ok⟩, Nat.zero_le _⟩
section
variable (f : Frag) (F : List HP)
set_option maxHeartbeats 1600000 in
theorem rget_fn {p : Option Addr} {c : Nat} {b : List UInt8} (hb : BAt f p b) (hc : b.length ≤ c) (hl : b.length ≤ 100000000) :
    Fn Tryz.prog 8 [.slice p b.length c] f F (RetE (fun j : Option Addr × Nat => .tuple #[.agg ((rgetR b).vals j.1 j.2).toArray, .int .i64 (rgetE b)]) f (fun j => qs j.1 j.2 (rgetR b).body.q :: F)) := by
  by_cases h41 : 41 ≤ b.length
  · have hR : rgetR b = rofR (fstOf b) (numOf b) (ownOf b) (tagOf b) := by unfold rgetR; rw [if_pos h41]
    have hE : rgetE b = rofE (fstOf b) (numOf b) (ownOf b) (tagOf b) := by unfold rgetE; rw [if_pos h41]
    rw [hR, hE]
    clear hR hE
    have hol := ownOf_len h41
    have hk1 := (⟨b, false⟩ : Cs).skip_len 8
    have hk2 := ((⟨b, false⟩ : Cs).skip 8).skip_len (b.length - 40)
    have hk0 : (⟨b, false⟩ : Cs).l.length = b.length := rfl
    have hg0 : (bytesV (ownOf b))[0]? = some (.int .u8 (((ownOf b).getD 0 0).toNat : Nat)) := bytesV_get (by omega)
    have hf0 : fstOf b = (((ownOf b).getD 0 0).toNat : Nat) := rfl
    have hu0 := ((ownOf b).getD 0 0).toNat_lt
    refine Fn.enter Tryz.func8 rfl Tryz.ntmps8 rfl (L := [(0, _)]) ⟨rfl, trivial⟩ fun base => ?_
    repeat ((first | apply H.seq | apply H.region))
    refine H.alloc (ls := msg0.vals none 0) rfl rfl rfl fun ob => ?_
    repeat (first | ((first | apply H.move | apply H.assign | apply H.len_slice); (iterate 3 exact rfl)) | (first | apply H.seq | apply H.region | apply H.nil | apply H.then_normal) | ((first | apply H.cmp | apply H.build); (iterate 5 exact rfl)) | (apply H.skip) | (apply H.cond_no; exact rfl; (omega)))
    refine H.box (ls := [.slice p b.length c, .bool false]) rfl rfl rfl rfl fun cb => ?_
    refine H.imp (rcut_fold hb hc) ?_
    repeat (first | ((first | apply H.move | apply H.assign); (iterate 3 exact rfl)) | (first | apply H.seq | apply H.region | apply H.nil | apply H.then_normal))
    refine H.callR rfl rfl rfl (rword_cs _ _ cb ⟨b, false⟩ (by omega)) ?_
    repeat (first | ((first | apply H.move | apply H.assign | apply H.len_slice); (iterate 3 exact rfl)) | (first | apply H.seq | apply H.region | apply H.nil | apply H.then_normal) | ((apply H.ar; (iterate 4 exact rfl)); (with_reducible apply wr_i64; omega); exact rfl))
    refine H.know (v := .int .i64 ((b.length : Int) - 40)) (u := .int .i64 ((b.length - 40 : Nat) : Int)) (d := 19) rfl (congrArg (Value.int .i64) (by omega)) ?_
    refine H.callE2 rfl rfl rfl (rraw_cs _ _ cb ((⟨b, false⟩ : Cs).skip 8) (b.length - 40) (by omega)) fun p3 c3 => ?_
    show H _ _ _ ((20, .slice p3 (ownOf b).length c3) :: _) _ (slc p3 (ownOf b).length c3 _ 1 (bytesV (ownOf b)) :: _) _
    refine H.slc_some (.here _ _ _) (by omega) fun kb hp => ?_
    subst hp
    refine H.slc_cap (.here _ _ _) fun hc3 _ _ => ?_
    repeat (first | ((apply H.assign); (iterate 3 exact rfl)) | (first | apply H.seq | apply H.nil | apply H.then_normal))
    refine H.drawB (by kernel_rfl) (by decide +kernel) (by first | exact blind_fn | exact blind_seq blind_fn | exact blind_seq (blind_seq blind_fn) | (repeat (first | exact blind_fn | refine blind_seq ?_ | refine blind_block ?_ | refine blind_loop ?_))) (S := [_]) rfl ?_
    refine HB.quiet [(0, false), (1, false), (2, false), (3, false), (4, false), (5, false), (6, false)] 6 (by kernel_rfl) ?_
    repeat (first | (refine HQ.index1 (i := 0) rfl rfl rfl rfl (by omega) rfl ?_) | (refine HQ.load1 rfl rfl rfl (.of (Rd.ofSlc (.here _ _ _) (by omega)) hg0) rfl ?_) | ((apply HQ.move); (iterate 3 exact rfl)) | ((apply HQ.conv_int; (iterate 2 exact rfl)); (with_reducible apply wr_i64; omega); exact rfl))
    refine HQ.more rfl ?_
    refine HB.ev1 (i := 7) (by kernel_rfl) rfl ?_
    refine H.front (x := rcutC _ _ _) (by repeat (first | exact .here _ _ | apply Pull.there)) ?_
    refine H.callR rfl rfl rfl (rdigest_cs _ _ cb (((⟨b, false⟩ : Cs).skip 8).skip (b.length - 40)) (by omega)) ?_
    repeat ((apply H.nil))
    refine H.front (x := slc _ _ _ _ _ _) (by repeat (first | exact .here _ _ | apply Pull.there)) ?_
    refine H.on0 rfl ?_
    refine HB.ev1 (i := 8) (by kernel_rfl) rfl ?_
    refine H.freeze (x := slc _ _ _ _ _ _) (by repeat (first | exact .here _ _ | apply Pull.there)) fun g2 hg2 hd2 => ?_
    refine H.callE rfl rfl rfl (rof_fn (un f g2) _ (i := fstOf b) (n := numOf b) (t := tagOf b) (slc_bat _ hg2 hd2) hc3 (by omega)) fun j => ?_
    generalize rofR (fstOf b) (numOf b) (ownOf b) (tagOf b) = r
    generalize rofE (fstOf b) (numOf b) (ownOf b) (tagOf b) = e
    refine H.thaw hg2 hd2 ?_
    repeat ((apply H.nil))
    refine H.on0 rfl ?_
    refine HB.quiet [(9, false), (10, false)] 2 (by kernel_rfl) ?_
    repeat (((apply HQ.extract); (iterate 4 exact rfl)))
    refine HQ.more rfl ?_
    refine HB.ev1 (i := 11) (by kernel_rfl) rfl ?_
    refine H.storeN (ls := msg0.vals none 0) (vs := r.vals j.1 j.2) (ls' := r.vals j.1 j.2) rfl rfl rfl (allOne_mem rfl) rfl (splice_all rfl) (by rw [Msg.vals_len, Msg.vals_len]; decide) (by repeat (first | exact .here _ _ _ | apply At.there)) ?_
    repeat ((apply H.nil))
    refine H.on0 rfl ?_
    refine HB.quiet [(12, false)] 0 (by kernel_rfl) ?_
    repeat (((apply HQ.assign); (iterate 3 exact rfl)))
    refine HQ.more rfl ?_
    refine HB.done (by kernel_rfl) ?_
    repeat (first | (apply H.then_normal) | (apply H.ret))
    refine H.drop (x := slc _ _ _ _ _ _) (by repeat (first | exact .here _ _ | apply Pull.there)) ?_
    refine H.drop (x := rcutC _ _ _) (by repeat (first | exact .here _ _ | apply Pull.there)) ?_
    refine H.front (x := row ob _ _) (by repeat (first | exact .here _ _ | apply Pull.there)) ?_
    refine H.front (x := qs _ _ _) (by repeat (first | exact .here _ _ | apply Pull.there)) ?_
    exact H.retCT rfl rfl rfl rfl (Rd.ofRow (.there _ (.here _ _ _))) rfl (fun _ s => s.drop (.there _ (.here _ _))) ⟨j, rfl, rfl, rfl⟩
  · have hR : rgetR b = msg0 := by unfold rgetR; rw [if_neg h41]
    have hE : rgetE b = 5 := by unfold rgetE; rw [if_neg h41]
    rw [hR, hE]
    refine Fn.enter Tryz.func8 rfl Tryz.ntmps8 rfl (L := [(0, _)]) ⟨rfl, trivial⟩ fun base => ?_
    repeat ((first | apply H.seq | apply H.region))
    refine H.alloc (ls := msg0.vals none 0) rfl rfl rfl fun ob => ?_
    repeat (first | (refine H.build (t := 36) (out := msg0.vals none 0) rfl rfl rfl (by kernel_rfl) rfl ?_) | ((first | apply H.move | apply H.assign | apply H.len_slice); (iterate 3 exact rfl)) | (first | apply H.seq | apply H.region | apply H.nil | apply H.then_normal) | ((apply H.cmp); (iterate 5 exact rfl)) | (apply H.cond_yes; exact rfl; (omega)))
    refine H.storeN (ls := msg0.vals none 0) (vs := msg0.vals none 0) (ls' := msg0.vals none 0) rfl rfl rfl (allOne_mem rfl) rfl (splice_all rfl) (by rw [Msg.vals_len]; decide) (by repeat (first | exact .here _ _ _ | apply At.there)) ?_
    repeat (first | ((apply H.assign); (iterate 3 exact rfl)) | (first | apply H.nil | apply H.then_normal) | (first | apply H.ret | apply H.then_ret))
    refine H.slc0 92 2 ?_
    exact H.retCT rfl rfl rfl rfl (Rd.ofRow (.there _ (.here _ _ _))) rfl (fun _ s => s.drop (.there _ (.here _ _))) ⟨(none, 0), rfl, rfl, rfl⟩
set_option maxRecDepth 20000 in
theorem gets_many (htab : TabAt f) {p : Option Addr} {c : Nat} {b : List UInt8} {i n : Int} {t : Nat → UInt8} (h : ¬ b.length ≤ 4096) :
    Fn Tryz.prog 3 [.slice p b.length c, .int .i64 i, .int .u64 n, .agg (b32 t).toArray] f F (Ret (.bool true) f F) := by
  refine Fn.enter Tryz.func3 rfl Tryz.ntmps3 rfl (L := [(0, _), (1, _), (2, _), (3, _)]) ⟨rfl, rfl, rfl, rfl, trivial⟩ fun base => ?_
  repeat ((first | apply H.seq | apply H.region))
  refine H.box (ls := b32 t) rfl rfl rfl rfl fun tb => ?_
  repeat (first | ((first | apply H.move | apply H.assign | apply H.len_slice); (iterate 3 exact rfl)) | (first | apply H.seq | apply H.region | apply H.nil | apply H.then_normal) | ((apply H.cmp); (iterate 5 exact rfl)) | (apply H.cond_yes; exact rfl; (omega)))
  refine H.callR rfl rfl rfl (works08_fn f _ htab) ?_
  repeat (first | ((apply H.assign); (iterate 3 exact rfl)) | (first | apply H.nil | apply H.then_normal) | (first | apply H.ret | apply H.then_ret))
  repeat refine H.drop (.here _ _) ?_
  exact H.ret1 rfl rfl (fun _ h => h) ⟨rfl, rfl, rfl⟩
set_option maxHeartbeats 1600000 in
set_option maxRecDepth 20000 in
theorem gets_fn (htab : TabAt f) {p : Option Addr} {c : Nat} {b : List UInt8} {i n : Int} {t : Nat → UInt8} (hb : BAt f p b) (hc : b.length ≤ c) :
    Fn Tryz.prog 3 [.slice p b.length c, .int .i64 i, .int .u64 n, .agg (b32 t).toArray] f F (Ret (.bool true) f F) := by
  by_cases hl : b.length ≤ 4096
  · have hpn : p = none → b = [] := fun hp => by
      rcases hb with h | ⟨b', off, cs, T, fr, h, _⟩
      · exact h
      · rw [hp] at h; cases h
    have hgs := rget_same b
    have hos := rof_same i n b t
    have k1 := getR_ok b
    have k2 := rgetR_ok b
    have k3 := ofR_ok i n b t
    have k4 := rofR_ok i n b t
    have hmg := fun G p1 c1 hs hpn => mget_fn f G (p := p1) (c := c1) (b := b) hs hpn (by omega)
    have hrg := fun G => rget_fn f G hb hc (by omega)
    have hmo := fun f G p1 c1 hb hpn => mof_fn f G (i := i) (n := n) (t := t) (p := p1) (c := c1) (b := b) hb hpn (by omega)
    have hro := fun G => rof_fn f G (i := i) (n := n) (t := t) hb hc (by omega)
    rw [hgs.2] at hrg
    rw [hos.2] at hro
    have hgs := hgs.1
    have hos := hos.1
    generalize getE b = ge at hmg hrg
    generalize ofE i n b t = oe at hmo hro
    generalize getR b = r1 at hmg hgs k1
    generalize rgetR b = r2 at hrg hgs k2
    generalize ofR i n b t = r3 at hmo hos k3
    generalize rofR i n b t = r4 at hro hos k4
    refine Fn.enter Tryz.func3 rfl Tryz.ntmps3 rfl (L := [(0, _), (1, _), (2, _), (3, _)]) ⟨rfl, rfl, rfl, rfl, trivial⟩ fun base => ?_
    repeat ((first | apply H.seq | apply H.region))
    refine H.box (ls := b32 t) rfl rfl rfl rfl fun tb => ?_
    repeat (first | ((first | apply H.move | apply H.assign | apply H.len_slice); (iterate 3 exact rfl)) | (first | apply H.seq | apply H.region | apply H.nil | apply H.then_normal) | ((apply H.cmp); (iterate 5 exact rfl)) | (apply H.skip) | (apply H.cond_no; exact rfl; (omega)))
    refine H.buildSlice (out := []) rfl rfl rfl rfl (by decide) (by decide) rfl rfl fun eb => ?_
    refine H.asSlc (k := 0) (sz := 1) rfl (by decide) ?_
    repeat (((apply H.move); (iterate 3 exact rfl)))
    refine H.append (sz := 1) (xs := []) (news := bytesV b) (m := b.length) rfl rfl rfl rfl rfl (fun p' c' => .here _ _ _) hb.src (bytesV_one _) rfl (by omega) (by omega) fun p1 c1 => ?_
    rw [show 0 + b.length = b.length from Nat.zero_add _, List.nil_append]
    refine H.slc_none (.here _ _ _) fun hp1 => ?_
    repeat (first | ((first | apply H.move | apply H.assign); (iterate 3 exact rfl)) | (first | apply H.seq | apply H.region | apply H.nil | apply H.then_normal))
    refine H.callE rfl rfl rfl (hmg _ _ _ (fun G => Src.append (Src.slcS (.here _ _ _) (by rw [bytesV_len]; exact (Nat.mul_one _).symm))) (fun h => List.eq_nil_of_length_eq_zero (hp1 h))) fun j1 => ?_
    repeat (first | ((apply H.move); (iterate 3 exact rfl)) | ((apply H.extract); (iterate 4 exact rfl)))
    refine H.alloc (ls := msg0.vals none 0) rfl rfl rfl fun xb1 => ?_
    refine H.storeN (ls := msg0.vals none 0) (vs := r1.vals j1.1 j1.2) (ls' := r1.vals j1.1 j1.2) rfl rfl rfl (allOne_mem rfl) rfl (splice_all rfl) (by rw [Msg.vals_len, Msg.vals_len]; decide) (.here _ _ _) ?_
    repeat (first | ((first | apply H.move | apply H.assign); (iterate 3 exact rfl)) | (first | apply H.seq | apply H.region | apply H.nil | apply H.then_normal))
    refine H.callE rfl rfl rfl (hrg _) fun j2 => ?_
    repeat (first | ((apply H.move); (iterate 3 exact rfl)) | ((apply H.extract); (iterate 4 exact rfl)))
    refine H.alloc (ls := msg0.vals none 0) rfl rfl rfl fun xb2 => ?_
    refine H.storeN (ls := msg0.vals none 0) (vs := r2.vals j2.1 j2.2) (ls' := r2.vals j2.1 j2.2) rfl rfl rfl (allOne_mem rfl) rfl (splice_all rfl) (by rw [Msg.vals_len, Msg.vals_len]; decide) (.here _ _ _) ?_
    repeat (first | ((first | apply H.move | apply H.assign); (iterate 3 exact rfl)) | (first | apply H.seq | apply H.region | apply H.nil | apply H.then_normal))
    refine H.loadN (ls := b32 t) rfl rfl rfl (Rd.ofRow (.there _ (.there _ (.there _ (.there _ (.there _ (.here _ _ _))))))) rfl rfl ?_
    refine H.freeze (x := slc p1 _ _ _ _ _) (by repeat (first | exact .here _ _ | apply Pull.there)) fun g0 hg0 hd0 => ?_
    refine H.callE rfl rfl rfl (hmo (un f g0) _ _ _ (slc_bat _ hg0 hd0) (fun h => List.eq_nil_of_length_eq_zero (hp1 h))) fun j3 => ?_
    refine H.thaw hg0 hd0 ?_
    repeat (first | ((apply H.move); (iterate 3 exact rfl)) | ((apply H.extract); (iterate 4 exact rfl)))
    refine H.alloc (ls := msg0.vals none 0) rfl rfl rfl fun xb3 => ?_
    refine H.storeN (ls := msg0.vals none 0) (vs := r3.vals j3.1 j3.2) (ls' := r3.vals j3.1 j3.2) rfl rfl rfl (allOne_mem rfl) rfl (splice_all rfl) (by rw [Msg.vals_len, Msg.vals_len]; decide) (.here _ _ _) ?_
    repeat (first | ((first | apply H.move | apply H.assign); (iterate 3 exact rfl)) | (first | apply H.seq | apply H.region | apply H.nil | apply H.then_normal))
    refine H.loadN (ls := b32 t) rfl rfl rfl (Rd.ofRow (by repeat (first | exact .here _ _ _ | apply At.there))) rfl rfl ?_
    refine H.callE rfl rfl rfl (hro _) fun j4 => ?_
    repeat (first | ((apply H.move); (iterate 3 exact rfl)) | ((apply H.extract); (iterate 4 exact rfl)))
    refine H.alloc (ls := msg0.vals none 0) rfl rfl rfl fun xb4 => ?_
    refine H.storeN (ls := msg0.vals none 0) (vs := r4.vals j4.1 j4.2) (ls' := r4.vals j4.1 j4.2) rfl rfl rfl (allOne_mem rfl) rfl (splice_all rfl) (by rw [Msg.vals_len, Msg.vals_len]; decide) (.here _ _ _) ?_
    refine H.freeze (x := qs j1.1 j1.2 _) (by repeat (first | exact .here _ _ | apply Pull.there)) fun g1 hg1 hd1 => ?_
    refine H.freeze (x := qs j2.1 j2.2 _) (by repeat (first | exact .here _ _ | apply Pull.there)) fun g2 hg2 hd2 => ?_
    refine H.freeze (x := qs j3.1 j3.2 _) (by repeat (first | exact .here _ _ | apply Pull.there)) fun g3 hg3 hd3 => ?_
    refine H.freeze (x := qs j4.1 j4.2 _) (by repeat (first | exact .here _ _ | apply Pull.there)) fun g4 hg4 hd4 => ?_
    have l1 : Le (un f g1) (un (un f g1) g2) := Le.un _ _
    have l2 : Le (un (un f g1) g2) (un (un (un f g1) g2) g3) := Le.un _ _
    have l3 : Le (un (un (un f g1) g2) g3) (un (un (un (un f g1) g2) g3) g4) := Le.un _ _
    have m1 : (⟨r1, j1.1, j1.2⟩ : MV).Good (un (un (un (un f g1) g2) g3) g4) := ⟨(((qs_qat hg1 hd1).mono l1).mono l2).mono l3, by have := k1.2; show r1.body.q.length ≤ _; omega, k1.1⟩
    have m2 : (⟨r2, j2.1, j2.2⟩ : MV).Good (un (un (un (un f g1) g2) g3) g4) := ⟨((qs_qat hg2 hd2).mono l2).mono l3, by have := k2.2; show r2.body.q.length ≤ _; omega, k2.1⟩
    have m3 : (⟨r3, j3.1, j3.2⟩ : MV).Good (un (un (un (un f g1) g2) g3) g4) := ⟨(qs_qat hg3 hd3).mono l3, by have := k3.2; show r3.body.q.length ≤ _; omega, k3.1⟩
    have m4 : (⟨r4, j4.1, j4.2⟩ : MV).Good (un (un (un (un f g1) g2) g3) g4) := ⟨qs_qat hg4 hd4, by have := k4.2; show r4.body.q.length ≤ _; omega, k4.1⟩
    have hle : Le f (un (un (un (un f g1) g2) g3) g4) := (((Le.un f g1).trans l1).trans l2).trans l3
    generalize un (un (un (un f g1) g2) g3) g4 = f4 at m1 m2 m3 m4 hle ⊢
    have hs1 := fun G => rsameM_fn f4 G m1 m2
    have hs2 := fun G => rsameM_fn f4 G m3 m4
    rw [show Msg.eqB (⟨r1, j1.1, j1.2⟩ : MV).m (⟨r2, j2.1, j2.2⟩ : MV).m = true from hgs] at hs1
    rw [show Msg.eqB (⟨r3, j3.1, j3.2⟩ : MV).m (⟨r4, j4.1, j4.2⟩ : MV).m = true from hos] at hs2
    have hstr : ((⟨b.toArray⟩ : ByteArray).toList == (⟨b.toArray⟩ : ByteArray).toList) = true := beq_self_eq_true _
    repeat (first | ((apply H.assign); (iterate 3 exact rfl)) | (first | apply H.seq | apply H.region | apply H.nil | apply H.then_normal))
    refine H.loadN (ls := r1.vals j1.1 j1.2) rfl rfl rfl (Rd.ofRow (by repeat (first | exact .here _ _ _ | apply At.there))) rfl rfl ?_
    refine H.loadN (ls := r2.vals j2.1 j2.2) rfl rfl rfl (Rd.ofRow (by repeat (first | exact .here _ _ _ | apply At.there))) rfl rfl ?_
    refine H.callR rfl rfl rfl (hs1 _) ?_
    repeat (first | ((apply H.move); (iterate 3 exact rfl)) | ((apply H.cmp); (iterate 5 exact rfl)) | (apply H.pickT; (iterate 4 exact rfl)) | (apply H.gyes; (iterate 3 exact rfl); (omega)))
    refine H.loadN (ls := r3.vals j3.1 j3.2) rfl rfl rfl (Rd.ofRow (by repeat (first | exact .here _ _ _ | apply At.there))) rfl rfl ?_
    refine H.loadN (ls := r4.vals j4.1 j4.2) rfl rfl rfl (Rd.ofRow (by repeat (first | exact .here _ _ _ | apply At.there))) rfl rfl ?_
    refine H.callR rfl rfl rfl (hs2 _) ?_
    repeat (first | ((apply H.move); (iterate 3 exact rfl)) | ((apply H.cmp); (iterate 5 exact rfl)) | (apply H.pickT; (iterate 4 exact rfl)) | (apply H.gyes; (iterate 3 exact rfl); (omega)))
    refine H.convBS rfl rfl (Src.slcS (by repeat (first | exact .here _ _ _ | apply At.there)) (by rw [bytesV_len]; exact (Nat.mul_one _).symm)) (fun h => List.eq_nil_of_length_eq_zero (hp1 h)) rfl ?_
    repeat (((apply H.move); (iterate 3 exact rfl)))
    refine H.convBS rfl rfl (BAt.mono hle hb).src hpn rfl ?_
    refine H.streq (c := true) rfl rfl rfl rfl hstr rfl ?_
    repeat (first | ((apply H.move); (iterate 3 exact rfl)) | (apply H.pickT; (iterate 4 exact rfl)))
    refine H.callR rfl rfl rfl (works08_fn f4 _ (IntsAt.mono hle htab)) ?_
    repeat (first | ((apply H.assign); (iterate 3 exact rfl)) | (first | apply H.nil | apply H.then_normal) | (apply H.pickT; (iterate 4 exact rfl)) | (apply H.ret))
    refine H.weakG hle ?_
    repeat refine H.drop (.here _ _) ?_
    exact H.ret1 rfl rfl (fun _ h => h) ⟨rfl, rfl, rfl⟩
  · exact gets_many f F htab hl
end
end Go.Proofs.YtcaofnfemogleaaGreatDoor

/- Layer 8: bytes that a law is given. -/
namespace Go.Proofs.YtcaofnfemogleaaGreatDoor
set_option linter.unusedSectionVars false
set_option linter.unusedSimpArgs false
set_option linter.unusedVariables false
open Go Go.ChangeShapes Go.WideShapes Go.RowKit Go.Deep
theorem reads_byte {W : World} {cs : List Value} (h : Reads Tryz.prog W 5 cs) : ∃ x : UInt8, True ∧ cs = [.int .u8 (x.toNat : Nat)] := by
  obtain ⟨z, rfl, hz⟩ := h.int Tryz.underlying5
  exact ⟨UInt8.ofNat z.toNat, trivial, by rw [u8_back hz]⟩
theorem listAt_bat {f : Frag} {p : Option Addr} {l : List UInt8} (h : ListAt f p 1 (fun x : UInt8 => [Value.int .u8 (x.toNat : Nat)]) l) : BAt f p l := by
  cases l with
  | nil => exact .inl rfl
  | cons x0 r =>
    obtain ⟨b, off, cs, T, fr, h1, h2, _⟩ := h 0 x0 rfl
    refine .inr ⟨b, off, cs, T, fr, h1, h2, fun i hi => ?_⟩
    have hx : (x0 :: r)[i]? = some (x0 :: r)[i] := List.getElem?_eq_getElem hi
    obtain ⟨b', off', cs', T', fr', g1, g2, g3⟩ := h i _ hx
    rw [h1] at g1
    cases g1
    rw [h2] at g2
    cases g2
    have h3 := g3 0 (show 0 < 1 by decide)
    rw [Nat.mul_one, Nat.add_zero] at h3
    rw [h3]
    unfold bytesV
    rw [List.getElem?_map, hx]
    rfl
theorem ArgOk.bytes {W : World} {v : Value} {t : TypeId} (ht : Tryz.prog.underlying t = some (.slice 5)) (h : ArgOk Tryz.prog W t v) : ∃ (p : Option Addr) (c : Nat) (l : List UInt8), v = .slice p l.length c ∧ l.length ≤ maxLen ∧ BAt (memOf W) p l := by
  obtain ⟨p, c, xs, rfl, h1, h2, _, hat⟩ := h.list (sz := 1) ht (by kernel_rfl) (by decide) fun cs => reads_byte
  exact ⟨p, c, xs, rfl, Nat.le_trans h1 h2, listAt_bat hat⟩
theorem ArgOk.bytesC {W : World} {v : Value} {t : TypeId} (ht : Tryz.prog.underlying t = some (.slice 5)) (h : ArgOk Tryz.prog W t v) : ∃ (p : Option Addr) (c : Nat) (l : List UInt8), v = .slice p l.length c ∧ l.length ≤ c ∧ c ≤ maxLen ∧ BAt (memOf W) p l := by
  obtain ⟨p, c, xs, rfl, h1, h2, _, hat⟩ := h.list (sz := 1) ht (by kernel_rfl) (by decide) fun cs => reads_byte
  exact ⟨p, c, xs, rfl, h1, h2, listAt_bat hat⟩
theorem okWide_arr {P : Program} {W : World} {r : Reach} {base n : Nat} {t e : TypeId} {v : Value} (ht : P.underlying t = some (.array n e)) (h : Value.okWide P W r base t v) : ∃ cs, v = .agg cs := by
  simp only [Value.okWide, ht] at h
  obtain ⟨cs, h1, _⟩ := h
  exact ⟨cs, h1⟩
set_option maxRecDepth 20000 in
theorem argOk_32 {W : World} {v : Value} (h : ArgOk Tryz.prog W 24 v) : ∃ d : Nat → UInt8, v = .agg (b32 d).toArray := by
  obtain ⟨⟨b, h1⟩, h2⟩ := h
  obtain ⟨cs, rfl⟩ := okWide_arr Tryz.underlying24 h1
  obtain ⟨d, hd⟩ := reads_32 h2
  have hd : cs.toList = b32 d := hd
  exact ⟨d, by rw [← hd, Array.toArray_toList]⟩
theorem ArgOk.bool {P : Program} {W : World} {v : Value} {t : TypeId} (ht : P.underlying t = some .bool) (h : ArgOk P W t v) : ∃ b, v = .bool b := by
  obtain ⟨⟨_, h1⟩, _⟩ := h
  exact okWide_bool ht h1
end Go.Proofs.YtcaofnfemogleaaGreatDoor

/- Rows whose laws read the table of sha: what is given of the program, and what the row's condition says. -/
namespace Go.Proofs.YtcaofnfemogleaaGreatDoor
set_option linter.unusedSectionVars false
set_option linter.unusedSimpArgs false
set_option linter.unusedVariables false
open Go Go.ChangeShapes Go.WideShapes Go.RowKit Go.Deep
theorem Tryz.own : ownKnob Tryz.prog.godebug = none := by kernel_rfl
theorem Tryz.laidOut : laidOutB Tryz.prog = true := by kernel_rfl
abbrev laidL : List (String × DataW Unit) := [("ratchet/sha.table", Rows.laid_ratchet_sha_table)]
theorem door_met (os : Os) (args : Array Value) : laidMetH Tryz.prog laidL ((World.doorLaid Tryz.prog 400 os).forCall (fun _ _ => 0) ⟨#[], args, []⟩).memory :=
  laidMetH_of_parts3 (fuel := 8) (laidMet_of_run' 8 (by kernel_rfl) (by kernel_rfl)) (by kernel_rfl) (by kernel_rfl)
theorem tab_eq : (Rows.laid_ratchet_sha_table : DataW Unit) = .agg ((Sha.k.map fun x => ((x.toNat : Nat) : Int)).map fun z => .lit (.int .u32 z)) := by kernel_rfl
theorem tab_of {W : World} (h : laidMetH Tryz.prog laidL W) : TabAt (memOf W) := by
  have h2 : laidMetH Tryz.prog [("ratchet/sha.table", .agg ((Sha.k.map fun x => ((x.toNat : Nat) : Int)).map fun z => .lit (.int .u32 z)))] W := by rw [← tab_eq]; exact h
  exact laid_ints h2 (by kernel_rfl) (by kernel_rfl) (t := 118) (e := 111) Tryz.underlying118 Tryz.underlying111 (by kernel_rfl)
end Go.Proofs.YtcaofnfemogleaaGreatDoor
