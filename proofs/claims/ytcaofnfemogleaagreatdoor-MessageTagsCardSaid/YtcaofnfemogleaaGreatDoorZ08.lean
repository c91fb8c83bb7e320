/- Parts of the proof, one behind the other, each under its own heading. No conditions. -/
import Derived.Test.YtcaofnfemogleaaGreatDoorZ07
import Derived.Test.YtcaofnfemogleaaGreatDoorRows
import Derived.Test.YtcaofnfemogleaaGreatDoorCards
import Derived.Test.YtcaofnfemogleaaGreatDoorTie
/- Layer 8, plain: what is put of a message is got, the same; what is got is put as it stood; no message's bytes begin another one's. No program in sight. -/
namespace Go.Proofs.YtcaofnfemogleaaGreatDoor
set_option linter.unusedSectionVars false
set_option linter.unusedSimpArgs false
set_option linter.unusedVariables false
open Go
/-! ### Cells that are told apart by eqC alone -/
def kdV : Value → Value
  | .int k _ => .int k 0
  | .string _ => .bool true
  | .bool _ => .bool false
  | v => v
theorem eqv_eq {a b : Value} (h : eqv a b = true) (hk : kdV a = kdV b) : a = b := by
  cases a with
  | bool x =>
    cases b <;> simp [eqv] at h
    subst h; rfl
  | int k x =>
    cases b with
    | int l y =>
      simp [eqv] at h
      simp [kdV] at hk
      subst h; subst hk; rfl
    | _ => simp [eqv] at h
  | string x =>
    cases b with
    | string y =>
      simp only [eqv] at h
      rw [beq_toListBytes, ByteArray.toList_eq, ByteArray.toList_eq, beq_iff_eq] at h
      rw [show x = y from ByteArray.ext (Array.ext' h)]
    | _ => simp [eqv] at h
  | _ => simp [eqv] at h
theorem eqC_eq : ∀ {a b : List Value}, eqC a b = true → a.map kdV = b.map kdV → a = b
  | [], [], _, _ => rfl
  | [], _ :: _, h, _ => by simp [eqC] at h
  | _ :: _, [], h, _ => by simp [eqC] at h
  | x :: xs, y :: ys, h, hk => by
    simp only [eqC, Bool.and_eq_true] at h
    simp only [List.map_cons, List.cons.injEq] at hk
    rw [eqv_eq h.1 hk.1, eqC_eq h.2 hk.2]
theorem u8_inj {a b : UInt8} (h : Value.int .u8 (a.toNat : Nat) = Value.int .u8 (b.toNat : Nat)) : a = b := by
  simp only [Value.int.injEq, true_and] at h
  exact UInt8.toNat_inj.1 (by omega)
theorem bytesV_inj : ∀ {a b : List UInt8}, bytesV a = bytesV b → a = b
  | [], [], _ => rfl
  | [], _ :: _, h => by simp [bytesV] at h
  | _ :: _, [], h => by simp [bytesV] at h
  | x :: xs, y :: ys, h => by
    simp only [bytesV, List.map_cons, List.cons.injEq] at h
    rw [u8_inj h.1, bytesV_inj h.2]
theorem b32_L {a b : Nat → UInt8} (h : b32 a = b32 b) : b32L a = b32L b := bytesV_inj (by rw [← b32_bytes, ← b32_bytes]; exact h)
theorem eq32_iff {a b : Nat → UInt8} : eqC (b32 a) (b32 b) = true ↔ b32 a = b32 b :=
  ⟨fun h => eqC_eq h rfl, fun h => by rw [h]; exact eq32_refl b⟩
theorem v11_iff {a b : Nat → Int} : v11 a = v11 b ↔ ∀ i, i < 11 → a i = b i := by
  constructor
  · intro h i hi
    have h1 := v11_get a hi
    have h2 := v11_get b hi
    rw [h, h2] at h1
    simp only [Option.some.injEq, Value.int.injEq, true_and] at h1
    exact h1.symm
  · intro h
    unfold v11
    rw [h 0 (by decide), h 1 (by decide), h 2 (by decide), h 3 (by decide), h 4 (by decide), h 5 (by decide), h 6 (by decide), h 7 (by decide), h 8 (by decide), h 9 (by decide), h 10 (by decide)]
theorem eqv11_iff {a b : Nat → Int} : eqC (v11 a) (v11 b) = true ↔ v11 a = v11 b :=
  ⟨fun h => eqC_eq h rfl, fun h => by rw [h]; exact eqC_refl rfl⟩
theorem eqReq_iff {a b : Req} : eqC a.vals b.vals = true ↔ a.vals = b.vals :=
  ⟨fun h => eqC_eq h rfl, fun h => by rw [h]; exact eqC_refl rfl⟩
theorem Bod.E.refl (a : Bod) : Bod.E a a := ⟨rfl, rfl, rfl, rfl, rfl, rfl⟩
theorem Bod.E.symm {a b : Bod} (h : Bod.E a b) : Bod.E b a := ⟨h.1.symm, h.2.1.symm, h.2.2.1.symm, h.2.2.2.1.symm, h.2.2.2.2.1.symm, h.2.2.2.2.2.symm⟩
theorem Bod.E.trans {a b c : Bod} (h : Bod.E a b) (g : Bod.E b c) : Bod.E a c := ⟨h.1.trans g.1, h.2.1.trans g.2.1, h.2.2.1.trans g.2.2.1, h.2.2.2.1.trans g.2.2.2.1, h.2.2.2.2.1.trans g.2.2.2.2.1, h.2.2.2.2.2.trans g.2.2.2.2.2⟩
theorem Bod.eqB_iff {a b : Bod} : Bod.eqB a b = true ↔ Bod.E a b := by
  unfold Bod.eqB Bod.E
  rw [Bool.and_eq_true, Bool.and_eq_true, Bool.and_eq_true, Bool.and_eq_true, Bool.and_eq_true, decide_eq_true_eq, decide_eq_true_eq, decide_eq_true_eq, decide_eq_true_eq, eqReq_iff, eq32_iff]
  constructor
  · rintro ⟨⟨⟨⟨⟨h1, h2⟩, h3⟩, h4⟩, h5⟩, h6⟩
    exact ⟨UInt8.toNat_inj.1 (by omega), h2, h3, h4, h5, h6⟩
  · rintro ⟨h1, h2, h3, h4, h5, h6⟩
    exact ⟨⟨⟨⟨⟨by rw [h1], h2⟩, h3⟩, h4⟩, h5⟩, h6⟩
/-- Messages that nobody tells apart. -/
def Msg.E (a b : Msg) : Prop := a.origin = b.origin ∧ a.number = b.number ∧ v11 a.deps = v11 b.deps ∧ Bod.E a.body b.body ∧ b32 a.tag = b32 b.tag
theorem Msg.E.refl (a : Msg) : Msg.E a a := ⟨rfl, rfl, rfl, Bod.E.refl _, rfl⟩
theorem Msg.E.symm {a b : Msg} (h : Msg.E a b) : Msg.E b a := ⟨h.1.symm, h.2.1.symm, h.2.2.1.symm, h.2.2.2.1.symm, h.2.2.2.2.symm⟩
theorem Msg.E.trans {a b c : Msg} (h : Msg.E a b) (g : Msg.E b c) : Msg.E a c := ⟨h.1.trans g.1, h.2.1.trans g.2.1, h.2.2.1.trans g.2.2.1, h.2.2.2.1.trans g.2.2.2.1, h.2.2.2.2.trans g.2.2.2.2⟩
theorem Msg.eqB_iff {a b : Msg} : Msg.eqB a b = true ↔ Msg.E a b := by
  unfold Msg.eqB Msg.E
  rw [Bool.and_eq_true, Bool.and_eq_true, Bool.and_eq_true, Bool.and_eq_true, decide_eq_true_eq, decide_eq_true_eq, eqv11_iff, Bod.eqB_iff, eq32_iff]
/-! ### What the same bodies, and messages, have in common -/
theorem Req.vals_inj {a b : Req} (h : a.vals = b.vals) : a.client = b.client ∧ a.time = b.time ∧ a.kind = b.kind ∧ a.key = b.key ∧ a.val = b.val ∧ a.old = b.old ∧ a.to = b.to ∧ a.amount = b.amount ∧ b32 a.tag = b32 b.tag := by
  unfold Req.vals at h
  have h1 := List.append_inj h rfl
  have h2 := h1.1
  simp only [List.cons.injEq, Value.int.injEq, Value.string.injEq, true_and, and_true] at h2
  obtain ⟨a1, a2, a3, a4, a5, a6, a7, a8⟩ := h2
  exact ⟨a1, a2, UInt8.toNat_inj.1 (by omega), a4, a5, a6, a7, a8, h1.2⟩
theorem Req.bytes_congr {a b : Req} (h : a.vals = b.vals) : a.bytes = b.bytes ∧ (a.asked ↔ b.asked) ∧ b32L a.tag = b32L b.tag := by
  obtain ⟨h1, h2, h3, h4, h5, h6, h7, h8, h9⟩ := Req.vals_inj h
  unfold Req.bytes Req.head Req.asked
  rw [h1, h2, h3, h4, h5, h6, h7, h8]
  exact ⟨rfl, Iff.rfl, b32_L h9⟩
theorem Bod.put_congr {a b : Bod} (h : Bod.E a b) : a.put = b.put := by
  obtain ⟨h1, h2, h3, h4, h5, h6⟩ := h
  obtain ⟨r1, _, r3⟩ := Req.bytes_congr h4
  have h7 := b32_L h6
  unfold Bod.put
  rw [h1]
  unfold Bod.putK
  rw [h2, h3, h5, r1, r3, h7]
theorem Bod.mayK_congr {a b : Bod} (h : Bod.E a b) (k : Nat) : a.mayK k = b.mayK k := by
  obtain ⟨h1, h2, h3, h4, h5, h6⟩ := h
  obtain ⟨_, r2, _⟩ := Req.bytes_congr h4
  unfold Bod.mayK
  rw [h2, h3, h5, decide_eq_decide.2 r2]
theorem Bod.own_congr {a b : Bod} (h : Bod.E a b) : Bod.E a.own b.own := by
  obtain ⟨h1, h2, h3, h4, h5, h6⟩ := h
  unfold Bod.own
  rw [h1]
  generalize b.kind.toNat = k
  match k with
  | 0 => exact ⟨h1, rfl, rfl, rfl, rfl, rfl⟩
  | 1 => exact ⟨h1, h2, rfl, h4, rfl, rfl⟩
  | 2 => exact ⟨h1, h2, h3, rfl, rfl, rfl⟩
  | 3 => exact ⟨h1, h2, rfl, rfl, rfl, rfl⟩
  | 4 => exact ⟨h1, h2, rfl, rfl, h5, rfl⟩
  | 5 => exact ⟨h1, h2, rfl, rfl, rfl, rfl⟩
  | 6 => exact ⟨h1, rfl, h3, rfl, rfl, h6⟩
  | k + 7 => exact ⟨h1, rfl, rfl, rfl, rfl, rfl⟩
theorem Bod.may_congr {a b : Bod} (h : Bod.E a b) : a.may = b.may := by
  have h0 := Bod.own_congr h
  unfold Bod.may
  rw [Bod.mayK_congr h, h.1, h.2.1, Bool.eq_iff_iff.2 (Bod.eqB_iff.trans (Iff.trans ⟨fun g => h0.symm.trans (g.trans h), fun g => h0.trans (g.trans h.symm)⟩ Bod.eqB_iff.symm))]
theorem depsB_congr {a b : Nat → Int} : ∀ n, (∀ i, i < n → a i = b i) → depsB a n = depsB b n
  | 0, _ => rfl
  | n + 1, h => by
    unfold depsB
    rw [depsB_congr n fun i hi => h i (by omega), h n (by omega)]
theorem maxTo_congr {a b : Nat → Int} : ∀ n, (∀ i, i ≤ n → a i = b i) → maxTo a n = maxTo b n
  | 0, h => h 0 (Nat.le_refl _)
  | n + 1, h => by
    unfold maxTo
    rw [maxTo_congr n fun i hi => h i (by omega), h (n + 1) (Nat.le_refl _)]
/-- The same but for the tag. -/
def Msg.E0 (a b : Msg) : Prop := a.origin = b.origin ∧ a.number = b.number ∧ v11 a.deps = v11 b.deps ∧ Bod.E a.body b.body
theorem Msg.E.e0 {a b : Msg} (h : Msg.E a b) : Msg.E0 a b := ⟨h.1, h.2.1, h.2.2.1, h.2.2.2.1⟩
theorem Msg.may_congr {a b : Msg} (h : Msg.E0 a b) : a.may = b.may := by
  obtain ⟨h1, h2, h3, h4⟩ := h
  have h5 := v11_iff.1 h3
  unfold Msg.may
  rw [Bod.may_congr h4]
  have e : a.outer ↔ b.outer := by
    unfold Msg.outer
    rw [h1, h2, maxTo_congr 10 fun i hi => h5 i (by omega)]
    constructor
    · rintro ⟨a1, a2, a3, a4, a5, a6⟩
      exact ⟨a1, a2, a3, a4, by rw [← h5 _ (by omega)]; exact a5, a6⟩
    · rintro ⟨a1, a2, a3, a4, a5, a6⟩
      exact ⟨a1, a2, a3, a4, by rw [h5 _ (by omega)]; exact a5, a6⟩
  rw [decide_eq_decide.2 e]
theorem Msg.tagged_congr {a b : Msg} (h : Msg.E0 a b) : a.tagged = b.tagged := by
  obtain ⟨h1, h2, h3, h4⟩ := h
  unfold Msg.tagged
  rw [h1, h4.1, Bod.put_congr h4, depsB_congr 11 (v11_iff.1 h3)]
theorem Msg.bytes_congr {a b : Msg} (h : Msg.E0 a b) : a.bytes = b.bytes := by
  unfold Msg.bytes
  rw [Msg.may_congr h, Msg.tagged_congr h]
theorem Msg.putB_congr {a b : Msg} (h : Msg.E a b) : a.putB = b.putB := by
  unfold Msg.putB
  rw [Msg.may_congr h.e0, Msg.tagged_congr h.e0, h.2.1, b32_L h.2.2.2.2]
theorem Msg.bytes_may {m : Msg} (hm : m.may = true) : m.bytes = m.tagged := by unfold Msg.bytes; rw [if_pos hm]
/-! ### What is put is got -/
theorem req_backG {q : Req} (h : q.Ok) (ha : q.asked) {mk mv : Nat} (hmk : 32 ≤ mk ∧ mk < 65536) (hmv : 128 ≤ mv ∧ mv < 65536) (r : List UInt8) :
    ((⟨q.bytes ++ b32L q.tag ++ r, false⟩ : Cs).req mk mv).vals = q.vals ∧ (⟨q.bytes ++ b32L q.tag ++ r, false⟩ : Cs).reqS mk mv = ⟨r, false⟩ := by
  obtain ⟨ht, hm⟩ := h
  obtain ⟨c1, c2, _, _, ⟨k1, k2⟩, k3, k4⟩ := ha
  have e : q.bytes ++ b32L q.tag ++ r = b8 q.client :: q.kind :: (be 8 q.time ++ (be 8 q.amount ++ (textB q.key ++ (textB q.val ++ (textB q.old ++ (textB q.to ++ (b32L q.tag ++ r))))))) := by
    unfold Req.bytes Req.head
    simp only [List.append_assoc, List.cons_append, List.nil_append]
    rfl
  rw [e]
  unfold Cs.req Cs.reqS
  dsimp only
  have t1 := Cs.text_app (s := q.key) (most := mk) (r := textB q.val ++ (textB q.old ++ (textB q.to ++ (b32L q.tag ++ r)))) (by omega) hmk.2
  have t2 := Cs.text_app (s := q.val) (most := mv) (r := textB q.old ++ (textB q.to ++ (b32L q.tag ++ r))) (by omega) hmv.2
  have t3 := Cs.text_app (s := q.old) (most := mv) (r := textB q.to ++ (b32L q.tag ++ r)) (by omega) hmv.2
  have t4 := Cs.text_app (s := q.to) (most := mk) (r := b32L q.tag ++ r) (by omega) hmk.2
  rw [Cs.num1_b, Cs.skip1_b, Cs.skip1_b, Cs.skip_app (be_len _ _), Cs.skip_app (be_len _ _), t1.1, t1.2, t2.1, t2.2, t3.1, t3.2, t4.1, t4.2, Cs.num8_be ht, Cs.num8_be hm]
  constructor
  · unfold Cs.byte
    rw [Cs.num1_b]
    unfold Req.vals
    rw [Cs.hash_app, baOf_data, baOf_data, baOf_data, baOf_data, b8_small (by omega)]
    simp
  · exact Cs.skip_app (a := b32L q.tag) rfl
section
variable (mk mv : Nat) (k8 : UInt8) (s : Cs)
theorem bodyK_1 : s.bodyK mk mv k8 1 = ({ Bod.zero k8 with view := (s.num 8 : Nat), req := (s.skip 8).req mk mv }, (s.skip 8).reqS mk mv) := rfl
theorem bodyK_2 : s.bodyK mk mv k8 2 = ({ Bod.zero k8 with view := (s.num 8 : Nat), k := ((s.skip 8).num 8 : Nat) }, (s.skip 8).skip 8) := rfl
theorem bodyK_3 : s.bodyK mk mv k8 3 = ({ Bod.zero k8 with view := (s.num 8 : Nat) }, s.skip 8) := rfl
theorem bodyK_4 : s.bodyK mk mv k8 4 = ({ Bod.zero k8 with view := (s.num 8 : Nat), q := (Cs.pairs ((s.skip 8).num 1) ((s.skip 8).skip 1) []).1 }, (Cs.pairs ((s.skip 8).num 1) ((s.skip 8).skip 1) []).2) := rfl
theorem bodyK_5 : s.bodyK mk mv k8 5 = ({ Bod.zero k8 with view := (s.num 8 : Nat) }, s.skip 8) := rfl
theorem bodyK_6 : s.bodyK mk mv k8 6 = ({ Bod.zero k8 with k := (s.num 8 : Nat), dig := (s.skip 8).hash }, (s.skip 8).skip 32) := rfl
end
theorem body_backG {x : Bod} (hx : x.Ok) (hm : x.mayK x.kind.toNat = true) {mk mv : Nat} (hmk : 32 ≤ mk ∧ mk < 65536) (hmv : 128 ≤ mv ∧ mv < 65536) (r : List UInt8) : Bod.E (((⟨x.put ++ r, false⟩ : Cs).bodyK mk mv x.kind x.kind.toNat).1) x.own ∧ ((⟨x.put ++ r, false⟩ : Cs).bodyK mk mv x.kind x.kind.toNat).2 = ⟨r, false⟩ := by
  obtain ⟨hv, hk, hr⟩ := hx
  unfold Bod.put Bod.own
  generalize x.kind.toNat = k at hm
  match k, hm with
  | 0, hm => exact absurd hm (by simp [Bod.mayK])
  | k + 7, hm => exact absurd hm (by simp [Bod.mayK])
  | 1, hm =>
    have ha : x.req.asked := of_decide_eq_true hm
    have e : x.putK 1 ++ r = be 8 x.view ++ (x.req.bytes ++ b32L x.req.tag ++ r) := by simp [Bod.putK]
    have h1 := req_backG hr ha hmk hmv r
    rw [e, bodyK_1, Cs.skip_app (be_len _ _)]
    dsimp only
    refine ⟨⟨rfl, Cs.num8_be hv, rfl, ?_, rfl, rfl⟩, ?_⟩
    · exact h1.1
    · with_reducible exact h1.2
  | 2, _ =>
    have e : x.putK 2 ++ r = be 8 x.view ++ (be 8 x.k ++ r) := by simp [Bod.putK]
    rw [e, bodyK_2, Cs.skip_app (be_len _ _), Cs.skip_app (be_len _ _)]
    exact ⟨⟨rfl, Cs.num8_be hv, Cs.num8_be hk, rfl, rfl, rfl⟩, rfl⟩
  | 3, _ =>
    have e : x.putK 3 ++ r = be 8 x.view ++ r := by simp [Bod.putK]
    rw [e, bodyK_3, Cs.skip_app (be_len _ _)]
    exact ⟨⟨rfl, Cs.num8_be hv, rfl, rfl, rfl, rfl⟩, rfl⟩
  | 5, _ =>
    have e : x.putK 5 ++ r = be 8 x.view ++ r := by simp [Bod.putK]
    rw [e, bodyK_5, Cs.skip_app (be_len _ _)]
    exact ⟨⟨rfl, Cs.num8_be hv, rfl, rfl, rfl, rfl⟩, rfl⟩
  | 6, _ =>
    have e : x.putK 6 ++ r = be 8 x.k ++ (b32L x.dig ++ r) := by simp [Bod.putK]
    have h1 : (⟨b32L x.dig ++ r, false⟩ : Cs).skip 32 = ⟨r, false⟩ := Cs.skip_app (a := b32L x.dig) rfl
    rw [e, bodyK_6, Cs.skip_app (be_len _ _), h1]
    exact ⟨⟨rfl, rfl, Cs.num8_be hk, rfl, rfl, Cs.hash_app⟩, rfl⟩
  | 4, hm =>
    simp only [Bod.mayK, Bool.and_eq_true, decide_eq_true_eq] at hm
    have hlen := quo_len x.q 0 (by omega) hm.2.1
    have e : x.putK 4 ++ r = be 8 x.view ++ (b8 x.q.length :: (x.q.flatMap pairB ++ r)) := by simp [Bod.putK]
    have hn : (b8 x.q.length).toNat = x.q.length := by have := b8_small (z := (x.q.length : Int)) (by omega); omega
    have hp := pairs_back x.q 0 r [] (Int.le_refl 0) hm.2.1
    rw [e, bodyK_4, Cs.skip_app (be_len _ _), Cs.num1_b, Cs.skip1_b, hn, hp]
    exact ⟨⟨rfl, Cs.num8_be hv, rfl, rfl, rfl, rfl⟩, rfl⟩
theorem body_backR {x : Bod} (hx : x.Ok) (hm : x.mayK x.kind.toNat = true) (r : List UInt8) : Bod.E (((⟨x.put ++ r, false⟩ : Cs).bodyK 32 128 x.kind x.kind.toNat).1) x.own ∧ ((⟨x.put ++ r, false⟩ : Cs).bodyK 32 128 x.kind x.kind.toNat).2 = ⟨r, false⟩ :=
  body_backG hx hm (by decide) (by decide) r
theorem deps_back (d : Nat → Int) : ∀ n (r : List UInt8), (∀ i, i < n → 0 ≤ d i ∧ d i ≤ 18446744073709551615) → ((⟨depsB d n ++ r, false⟩ : Cs).deps n).2 = ⟨r, false⟩ ∧ ∀ i, i < n → ((⟨depsB d n ++ r, false⟩ : Cs).deps n).1 i = d i
  | 0, r, _ => ⟨rfl, fun i hi => by omega⟩
  | n + 1, r, h => by
    have e : depsB d (n + 1) ++ r = depsB d n ++ (be 8 (d n) ++ r) := by simp [depsB]
    rw [e]
    obtain ⟨h1, h2⟩ := deps_back d n (be 8 (d n) ++ r) fun i hi => h i (by omega)
    constructor
    · show (Cs.deps _ n).2.skip 8 = _
      rw [h1, Cs.skip_app (be_len _ _)]
    · intro i hi
      show setD (Cs.deps _ n).1 n ((Cs.deps _ n).2.num 8 : Nat) i = _
      rw [h1, Cs.num8_be (h n (by omega))]
      unfold setD
      by_cases hi2 : i = n
      · rw [if_pos hi2, hi2]
      · rw [if_neg hi2, h2 i (by omega)]
theorem Msg.may_facts {m : Msg} (hm : m.may = true) (ht : m.Typ) : (1 ≤ m.origin ∧ m.origin ≤ 11) ∧ (1 ≤ m.number ∧ m.number ≤ 65536) ∧ (∀ i, i < 11 → 0 ≤ m.deps i ∧ m.deps i ≤ 65536) ∧ Bod.E m.body.own m.body ∧ m.body.mayK m.body.kind.toNat = true := by
  obtain ⟨a1, a2, a3, a4, a5, a6⟩ := Msg.may_outer hm
  obtain ⟨b1, b2, b3⟩ := Bod.may_spec (Msg.may_body hm)
  exact ⟨⟨a1, a2⟩, ⟨a3, a4⟩, fun i hi => ⟨ht.2 i hi, (maxTo_le m.deps 65536 10).1 a6 i (by omega)⟩, Bod.eqB_iff.1 b1, b3⟩
theorem kind_range {x : Bod} (hm : x.mayK x.kind.toNat = true) : 1 ≤ x.kind.toNat ∧ x.kind.toNat ≤ 6 := by
  generalize x.kind.toNat = k at hm
  match k, hm with
  | 0, hm => exact absurd hm (by simp [Bod.mayK])
  | k + 7, hm => exact absurd hm (by simp [Bod.mayK])
  | 1, _ => decide
  | 2, _ => decide
  | 3, _ => decide
  | 4, _ => decide
  | 5, _ => decide
  | 6, _ => decide
/-- What is read of what is tagged, and more. -/
theorem tagged_parse {m : Msg} (hm : m.may = true) (ht : m.Typ) (r : List UInt8) :
    orgOf (m.tagged ++ r) = m.origin ∧ v11 (Cs.headD (m.tagged ++ r)) = v11 m.deps ∧ kindOf (m.tagged ++ r) = m.body.kind ∧ Bod.E (bodyOf (m.tagged ++ r)).1 m.body ∧ (bodyOf (m.tagged ++ r)).2 = ⟨r, false⟩ := by
  obtain ⟨ho, hn, hd, he, hk⟩ := Msg.may_facts hm ht
  have e : m.tagged ++ r = b8 m.origin :: (depsB m.deps 11 ++ (m.body.kind :: (m.body.put ++ r))) := by simp [Msg.tagged]
  have hdb := deps_back m.deps 11 (m.body.kind :: (m.body.put ++ r)) fun i hi => ⟨(hd i hi).1, by have := (hd i hi).2; omega⟩
  have hS : Cs.headS (m.tagged ++ r) = ⟨m.body.kind :: (m.body.put ++ r), false⟩ := by
    unfold Cs.headS
    rw [e, Cs.skip1_b]
    exact hdb.1
  have hK : kindOf (m.tagged ++ r) = m.body.kind := by
    unfold kindOf Cs.byte
    rw [hS, Cs.num1_b]
    simp
  have hB : bodyOf (m.tagged ++ r) = (⟨m.body.put ++ r, false⟩ : Cs).bodyK 32 128 m.body.kind m.body.kind.toNat := by
    unfold bodyOf
    rw [hK, hS, Cs.skip1_b]
  have hb := body_backR ht.1 hk r
  rw [← hB] at hb
  refine ⟨?_, ?_, hK, hb.1.trans he, hb.2⟩
  · unfold orgOf
    rw [e, Cs.num1_b]
    exact b8_small (by omega)
  · refine v11_iff.2 fun i hi => ?_
    unfold Cs.headD
    rw [e, Cs.skip1_b]
    exact hdb.2 i hi
/-- No message's bytes begin another one's. -/
theorem tagged_cancel {m k : Msg} (hm : m.may = true) (ht : m.Typ) (hk : k.may = true) (htk : k.Typ) {r s : List UInt8} (h : m.tagged ++ r = k.tagged ++ s) :
    r = s ∧ m.origin = k.origin ∧ v11 m.deps = v11 k.deps ∧ Bod.E m.body k.body := by
  obtain ⟨a1, a2, a3, a4, a5⟩ := tagged_parse hm ht r
  obtain ⟨b1, b2, b3, b4, b5⟩ := tagged_parse hk htk s
  rw [h] at a1 a2 a3 a4 a5
  rw [a5] at b5
  simp only [Cs.mk.injEq, and_true] at b5
  exact ⟨b5, a1.symm.trans b1, a2.symm.trans b2, a4.symm.trans b4⟩
theorem of_tagged {m : Msg} (hm : m.may = true) (ht : m.Typ) (t : Nat → UInt8) : ofOk m.origin m.number m.tagged t = true ∧ Msg.E0 (msgOf m.number m.tagged t) m := by
  have h := tagged_parse hm ht []
  rw [List.append_nil] at h
  obtain ⟨a1, a2, a3, a4, a5⟩ := h
  obtain ⟨_, _, _, _, hk⟩ := Msg.may_facts hm ht
  have hE : Msg.E0 (msgOf m.number m.tagged t) m := by
    unfold msgOf Msg.E0
    dsimp only
    exact ⟨a1, rfl, a2, a4⟩
  refine ⟨?_, hE⟩
  have hby : (msgOf m.number m.tagged t).bytes = m.tagged := by
    rw [Msg.bytes_congr hE, Msg.bytes_may hm]
  have h1 : kOk m.tagged = true := by
    unfold kOk
    rw [a3]
    exact decide_eq_true (kind_range hk)
  unfold ofOk
  rw [h1, decide_eq_true a1, a5, decide_eq_true hby]
  decide
theorem msgOf_tag (n : Int) (b : List UInt8) (t : Nat → UInt8) : (msgOf n b t).tag = t := rfl
theorem msgOf_ok (n : Int) (b : List UInt8) (t : Nat → UInt8) : (msgOf n b t).body.Ok ∧ (msgOf n b t).body.q.length ≤ 1000 := by
  unfold msgOf bodyOf
  dsimp only
  exact ⟨bodyK_ok _ _ _, bodyK_q _ _ _⟩
theorem of_same {m : Msg} (hm : m.may = true) (ht : m.Typ) : ofE m.origin m.number m.tagged m.tag = 0 ∧ ofR m.origin m.number m.tagged m.tag = msgOf m.number m.tagged m.tag ∧ Msg.eqB (msgOf m.number m.tagged m.tag) m = true := by
  obtain ⟨h1, h2⟩ := of_tagged hm ht m.tag
  refine ⟨?_, ?_, ?_⟩
  · unfold ofE; rw [if_pos h1]
  · unfold ofR; rw [if_pos h1]
  · rw [Msg.eqB_iff]
    exact ⟨h2.1, h2.2.1, h2.2.2.1, h2.2.2.2, by rw [msgOf_tag]⟩
theorem putB_may {m : Msg} (hm : m.may = true) : m.putB = be 8 m.number ++ m.tagged ++ b32L m.tag := by unfold Msg.putB; exact if_pos hm
theorem tagged_pos (m : Msg) : 1 ≤ m.tagged.length := by
  unfold Msg.tagged
  simp only [List.length_append, List.length_cons, List.length_nil]
  omega
theorem putB_len {m : Msg} (hm : m.may = true) : m.putB.length = m.tagged.length + 40 := by
  rw [putB_may hm, List.length_append, List.length_append, be_len]
  show 8 + _ + 32 = _
  omega
theorem putB_pos {m : Msg} : (0 < m.putB.length) ↔ m.may = true := by
  by_cases hm : m.may = true
  · rw [putB_len hm]
    exact ⟨fun _ => hm, fun _ => by omega⟩
  · unfold Msg.putB
    rw [if_neg hm]
    exact ⟨fun h => by simp at h, fun h => absurd h hm⟩
/-- What is put is got, the same. -/
theorem get_put {m : Msg} (hm : m.may = true) (ht : m.Typ) : getE m.putB = 0 ∧ Msg.E (getR m.putB) m := by
  have hl := putB_len hm
  have hp := tagged_pos m
  have e := putB_may hm
  rw [List.append_assoc] at e
  obtain ⟨ho, hn, _⟩ := Msg.may_facts hm ht
  have e1 : (⟨m.putB, false⟩ : Cs).skip 8 = ⟨m.tagged ++ b32L m.tag, false⟩ := by rw [e, Cs.skip_app (be_len _ _)]
  have h40 : m.putB.length - 40 = m.tagged.length := by omega
  have e2 : ownOf m.putB = m.tagged := by
    unfold ownOf
    rw [e1, h40, Cs.raw_app rfl]
  have e3 : numOf m.putB = m.number := by
    unfold numOf
    rw [e, Cs.num8_be (by omega)]
  have e4 : b32 (tagOf m.putB) = b32 m.tag := by
    unfold tagOf
    rw [e1, h40, Cs.skip_app rfl]
    have := Cs.hash_app (t := m.tag) (r := [])
    rwa [List.append_nil] at this
  have e5 : fstOf m.putB = m.origin := by
    unfold fstOf
    rw [e2]
    show ((((b8 m.origin :: _).getD 0 0).toNat : Nat) : Int) = _
    exact b8_small (by omega)
  obtain ⟨h1, h2⟩ := of_tagged hm ht (tagOf m.putB)
  have h41 : 41 ≤ m.putB.length := by omega
  unfold getE getR
  rw [if_pos h41, if_pos h41, e2, e3, e5]
  unfold ofE ofR
  rw [if_pos h1, if_pos h1]
  exact ⟨rfl, h2.1, h2.2.1, h2.2.2.1, h2.2.2.2, e4⟩
/-! ### What is got is put as it stood -/
theorem byte_ofNat (n : Nat) (b : UInt8) : byteAt ((n * 256 + b.toNat : Nat) : Int) 0 = b := by
  refine UInt8.toNat_inj.1 ?_
  rw [byteAt_nat]
  have := b.toNat_lt
  rw [Nat.pow_zero, Nat.div_one]
  omega
theorem numB_inj : ∀ {n : Nat} {a b : List UInt8}, a.length = n → b.length = n → numB a = numB b → a = b
  | 0, a, b, ha, hb, _ => by
    rw [List.eq_nil_of_length_eq_zero ha, List.eq_nil_of_length_eq_zero hb]
  | n + 1, a, b, ha, hb, h => by
    have hane : a ≠ [] := by intro e; rw [e] at ha; simp at ha
    have hbne : b ≠ [] := by intro e; rw [e] at hb; simp at hb
    rw [← List.dropLast_concat_getLast hane, ← List.dropLast_concat_getLast hbne] at h ⊢
    rw [numB_snoc, numB_snoc] at h
    have x1 := (a.getLast hane).toNat_lt
    have x2 := (b.getLast hbne).toNat_lt
    have h1 : numB a.dropLast = numB b.dropLast := by omega
    have h2 : (a.getLast hane).toNat = (b.getLast hbne).toNat := by omega
    rw [numB_inj (n := n) (by simp [ha]) (by simp [hb]) h1, UInt8.toNat_inj.1 h2]
theorem be_numB {l : List UInt8} {k : Nat} (h : l.length = k) : be k (numB l : Nat) = l := by
  refine numB_inj (be_len _ _) h ?_
  rw [numB_be]
  rw [← h]
  exact numB_lt l
theorem getR_typ (b : List UInt8) : (getR b).Typ := by
  refine ⟨(getR_ok b).1, fun i hi => ?_⟩
  have key : ∀ (s : Cs) n i, 0 ≤ (s.deps n).1 i := by
    intro s n
    induction n with
    | zero => intro i; exact Int.le_refl 0
    | succ n ih =>
      intro i
      show 0 ≤ setD _ n _ i
      unfold setD
      split
      · exact Int.natCast_nonneg _
      · exact ih i
  unfold getR
  split
  · unfold ofR
    split
    · show 0 ≤ Cs.headD (ownOf b) i
      unfold Cs.headD
      exact key _ _ _
    · exact Int.le_refl 0
  · exact Int.le_refl 0
theorem getE_cases (b : List UInt8) : getE b = 0 ∨ getE b = 5 := by
  unfold getE
  split
  · unfold ofE
    split
    · exact .inl rfl
    · exact .inr rfl
  · exact .inr rfl
theorem ofOk_bytes {i n : Int} {b : List UInt8} {t : Nat → UInt8} (h : ofOk i n b t = true) : orgOf b = i ∧ (msgOf n b t).bytes = b := by
  unfold ofOk at h
  simp only [Bool.and_eq_true, decide_eq_true_eq] at h
  exact ⟨h.2.1, h.2.2.2.2⟩
theorem ofOk_may {i n : Int} {b : List UInt8} {t : Nat → UInt8} (h : ofOk i n b t = true) (hb : b ≠ []) : (msgOf n b t).may = true ∧ (msgOf n b t).tagged = b := by
  have h1 := (ofOk_bytes h).2
  unfold Msg.bytes at h1
  split at h1
  · rename_i hm; exact ⟨hm, h1⟩
  · exact absurd h1.symm hb
theorem get_ok {b : List UInt8} (h : getE b = 0) : (getR b).may = true ∧ (getR b).putB = b := by
  unfold getE at h
  by_cases h41 : 41 ≤ b.length
  · rw [if_pos h41] at h
    unfold ofE at h
    split at h
    · rename_i hok
      have hol := ownOf_len h41
      have hne : ownOf b ≠ [] := by intro e; rw [e] at hol; simp at hol; omega
      have hR : getR b = msgOf (numOf b) (ownOf b) (tagOf b) := by
        unfold getR ofR
        rw [if_pos h41, if_pos hok]
      obtain ⟨h1, h2⟩ := ofOk_may hok hne
      rw [hR]
      refine ⟨h1, ?_⟩
      rw [putB_may h1, h2]
      have hb : b = b.take 8 ++ ((b.drop 8).take (b.length - 40) ++ (b.drop 8).drop (b.length - 40)) := by rw [List.take_append_drop, List.take_append_drop]
      have l1 : (b.take 8).length = 8 := by rw [List.length_take]; omega
      have l2 : ((b.drop 8).take (b.length - 40)).length = b.length - 40 := by rw [List.length_take, List.length_drop]; omega
      have l3 : ((b.drop 8).drop (b.length - 40)).length = 32 := by rw [List.length_drop, List.length_drop]; omega
      generalize b.take 8 = x1 at hb l1
      generalize (b.drop 8).take (b.length - 40) = x2 at hb l2
      generalize (b.drop 8).drop (b.length - 40) = x3 at hb l3
      have hsk : (⟨b, false⟩ : Cs).skip 8 = ⟨x2 ++ x3, false⟩ := by rw [hb, Cs.skip_app l1]
      have hn : numOf b = (numB x1 : Nat) := by
        unfold numOf
        rw [hb, Cs.num_app l1]
      have ho : ownOf b = x2 := by
        unfold ownOf
        rw [hsk, Cs.raw_app l2]
      have ht : b32L (tagOf b) = x3 := by
        unfold tagOf
        rw [hsk, Cs.skip_app l2]
        have hr := Cs.raw_app (r := []) l3
        rw [List.append_nil] at hr
        unfold Cs.hash
        rw [hr]
        exact b32L_get l3
      show be 8 (numOf b) ++ ownOf b ++ b32L (tagOf b) = b
      rw [hn, ho, ht, be_numB l1, List.append_assoc]
      exact hb.symm
    · exact absurd h (by decide)
  · rw [if_neg h41] at h
    exact absurd h (by decide)
theorem b32L_len (t : Nat → UInt8) : (b32L t).length = 32 := rfl
theorem putB_cancel {m k : Msg} (hm : m.may = true) (ht : m.Typ) (hk : k.may = true) (htk : k.Typ) {r s : List UInt8} (h : m.putB ++ r = k.putB ++ s) : r = s ∧ Msg.E m k := by
  rw [putB_may hm, putB_may hk] at h
  simp only [List.append_assoc] at h
  have h1 := List.append_inj h (by rw [be_len, be_len])
  obtain ⟨_, hn, _⟩ := Msg.may_facts hm ht
  obtain ⟨_, hn2, _⟩ := Msg.may_facts hk htk
  obtain ⟨h2, h3, h4, h5⟩ := tagged_cancel hm ht hk htk h1.2
  have h6 := List.append_inj h2 (by rw [b32L_len, b32L_len])
  refine ⟨h6.2, h3, ?_, h4, h5, ?_⟩
  · have a1 := numB_be8 (z := m.number) (by omega)
    have a2 := numB_be8 (z := k.number) (by omega)
    rw [h1.1, a2] at a1
    exact a1.symm
  · rw [b32_bytes, b32_bytes, h6.1]
/-- Cut, it is none. -/
theorem get_cut {m : Msg} (hm : m.may = true) (ht : m.Typ) {k : Nat} (hk : k < m.putB.length) : getE (m.putB.take k) = 5 := by
  rcases getE_cases (m.putB.take k) with h | h
  · obtain ⟨h1, h2⟩ := get_ok h
    have e : (getR (m.putB.take k)).putB ++ m.putB.drop k = m.putB ++ [] := by rw [h2, List.take_append_drop, List.append_nil]
    have h3 := (putB_cancel h1 (getR_typ _) hm ht e).1
    have h4 := congrArg List.length h3
    rw [List.length_drop, List.length_nil] at h4
    omega
  · exact h
/-- With more, it is none. -/
theorem get_more {m : Msg} (hm : m.may = true) (ht : m.Typ) (b : UInt8) : getE (m.putB ++ [b]) = 5 := by
  rcases getE_cases (m.putB ++ [b]) with h | h
  · obtain ⟨h1, h2⟩ := get_ok h
    have e : (getR (m.putB ++ [b])).putB ++ [] = m.putB ++ [b] := by rw [h2, List.append_nil]
    have h3 := (putB_cancel h1 (getR_typ _) hm ht e).1
    exact absurd h3 (by simp)
  · exact h
theorem put_same {m k : Msg} (hm : m.may = true) (ht : m.Typ) (hk : k.may = true) (htk : k.Typ) : m.putB = k.putB ↔ Msg.eqB m k = true := by
  rw [Msg.eqB_iff]
  exact ⟨fun h => (putB_cancel hm ht hk htk (r := []) (s := []) (by rw [h])).2, fun h => Msg.putB_congr h⟩
theorem get_back {m : Msg} (ht : m.Typ) : (getE m.putB = 0 ↔ m.may = true) ∧ (m.may = true → Msg.eqB (getR m.putB) m = true) := by
  refine ⟨⟨fun h => ?_, fun h => (get_put h ht).1⟩, fun h => Msg.eqB_iff.2 (get_put h ht).2⟩
  by_cases hm : m.may = true
  · exact hm
  · have : m.putB = [] := by unfold Msg.putB; exact if_neg hm
    rw [this, getE_nil] at h
    exact absurd h (by decide)
end Go.Proofs.YtcaofnfemogleaaGreatDoor

/- Layer 8: MessageRequests and MessageTags. Condition: the table of the standard stands in the fragment. -/
namespace Go.Proofs.YtcaofnfemogleaaGreatDoor
set_option linter.unusedSectionVars false
set_option linter.unusedSimpArgs false
set_option linter.unusedVariables false
open Go
theorem req_beq (r : Req) : eqC r.vals r.vals = true := eqC_refl rfl
section
variable (f : Frag) (F : List HP)
theorem rauth_fn (r : Req) : Fn Tryz.prog 17 [.agg r.vals.toArray] f F (Ret (.bool r.auth) f F) := by
  have has := fun G => rasked_fn f G r
  have hsd := fun G => rsigned_fn f G r
  unfold Req.auth
  unfold Req.signed at hsd
  by_cases ha : r.asked
  · rw [if_pos ha] at hsd
    rw [decide_eq_true ha, Bool.true_and]
    rw [decide_eq_true ha] at has
    have heq : eqC (b32 r.sig) (b32 r.tag) = eq32 r.tag r.sig := eqC_comm _ _
    generalize eq32 r.tag r.sig = e at heq ⊢
    generalize r.sig = t at hsd heq
    refine Fn.enter Tryz.func17 rfl Tryz.ntmps17 rfl (L := [(0, _)]) ⟨rfl, trivial⟩ fun base => ?_
    repeat ((first | apply H.seq | apply H.region))
    refine H.box (ls := r.vals) rfl rfl rfl rfl fun qb => ?_
    repeat (first | ((apply H.assign); (iterate 3 exact rfl)) | (first | apply H.seq | apply H.nil | apply H.then_normal))
    refine H.drawB (by kernel_rfl) (by decide +kernel) (by first | exact blind_fn | exact blind_seq blind_fn | exact blind_seq (blind_seq blind_fn) | (repeat (first | exact blind_fn | refine blind_seq ?_ | refine blind_block ?_ | refine blind_loop ?_))) (S := [_]) rfl ?_
    refine HB.quiet [(0, false)] 10 (by kernel_rfl) ?_
    refine HQ.loadN (ls := r.vals) rfl rfl rfl (Rd.ofRow (.here _ _ _)) rfl rfl ?_
    refine HQ.more rfl ?_
    refine HB.ev1 (i := 1) (by kernel_rfl) rfl ?_
    refine H.callR rfl rfl rfl (has _) ?_
    repeat ((apply H.nil))
    refine H.on0 rfl ?_
    refine HB.quiet [(2, false), (3, false), (6, false), (7, false)] 5 (by kernel_rfl) ?_
    repeat (((apply HQ.move); (iterate 3 exact rfl)))
    refine HQ.loadN (ls := r.vals) rfl rfl rfl (Rd.ofRow (.here _ _ _)) rfl rfl ?_
    repeat ((apply HQ.fieldAddr; (iterate 3 exact rfl); exact inferInstance; exact rfl))
    refine HQ.loadN (ls := b32 r.tag) rfl rfl rfl (req_tag (.here _ _ _)) rfl rfl ?_
    refine HQ.more rfl ?_
    refine HB.ev1 (i := 4) (by kernel_rfl) rfl ?_
    refine H.callR rfl rfl rfl (hsd _) ?_
    repeat ((apply H.nil))
    refine H.on0 rfl ?_
    refine HB.quiet [(5, false), (8, false), (9, false), (10, false)] 0 (by kernel_rfl) ?_
    refine HQ.fieldN (xs := ({ r with tag := t } : Req).vals) (ls := b32 t) rfl rfl rfl inferInstance rfl inferInstance rfl rfl ?_
    refine HQ.aggEq (xs := b32 t) (ys := b32 r.tag) (D := 4) rfl rfl rfl rfl (by kernel_rfl) (by kernel_rfl) (by kernel_rfl) (by kernel_rfl) (by decide) heq rfl ?_
    repeat (first | ((apply HQ.assign); (iterate 3 exact rfl)) | (apply HQ.pickT; (iterate 4 exact rfl)))
    refine HQ.more rfl ?_
    refine HB.done (by kernel_rfl) ?_
    repeat (first | (apply H.then_normal) | (apply H.ret))
    refine H.drop (.here _ _) ?_
    exact H.ret1 rfl rfl (fun _ h => h) ⟨rfl, rfl, rfl⟩
  · rw [decide_eq_false ha, Bool.false_and]
    rw [decide_eq_false ha] at has
    refine Fn.enter Tryz.func17 rfl Tryz.ntmps17 rfl (L := [(0, _)]) ⟨rfl, trivial⟩ fun base => ?_
    repeat ((first | apply H.seq | apply H.region))
    refine H.box (ls := r.vals) rfl rfl rfl rfl fun qb => ?_
    repeat (first | ((apply H.assign); (iterate 3 exact rfl)) | (first | apply H.seq | apply H.nil | apply H.then_normal))
    refine H.drawB (by kernel_rfl) (by decide +kernel) (by first | exact blind_fn | exact blind_seq blind_fn | exact blind_seq (blind_seq blind_fn) | (repeat (first | exact blind_fn | refine blind_seq ?_ | refine blind_block ?_ | refine blind_loop ?_))) (S := [_]) rfl ?_
    refine HB.quiet [(0, false)] 10 (by kernel_rfl) ?_
    refine HQ.loadN (ls := r.vals) rfl rfl rfl (Rd.ofRow (.here _ _ _)) rfl rfl ?_
    refine HQ.more rfl ?_
    refine HB.ev1 (i := 1) (by kernel_rfl) rfl ?_
    refine H.callR rfl rfl rfl (has _) ?_
    repeat ((apply H.nil))
    refine H.on0 rfl ?_
    refine HB.quiet [(2, false), (3, false), (6, false), (7, false)] 5 (by kernel_rfl) ?_
    repeat (first | ((apply HQ.move); (iterate 3 exact rfl)) | (apply HQ.pass; (iterate 2 exact rfl)))
    refine HQ.more rfl ?_
    refine HB.ev1 (i := 4) (by kernel_rfl) rfl ?_
    repeat (first | (apply H.nil) | (apply H.pass; (iterate 2 exact rfl)))
    refine H.on0 rfl ?_
    refine HB.quiet [(5, false), (8, false), (9, false), (10, false)] 0 (by kernel_rfl) ?_
    repeat (first | ((apply HQ.assign); (iterate 3 exact rfl)) | (apply HQ.pass; (iterate 2 exact rfl)) | ((apply HQ.pickF); (iterate 4 exact rfl)))
    refine HQ.more rfl ?_
    refine HB.done (by kernel_rfl) ?_
    repeat (first | (apply H.then_normal) | (apply H.ret))
    refine H.drop (.here _ _) ?_
    exact H.ret1 rfl rfl (fun _ h => h) ⟨rfl, rfl, rfl⟩
set_option maxHeartbeats 800000 in
set_option maxRecDepth 20000 in
theorem requests_fn (htab : TabAt f) (r : Req) (own : Bool) : Fn Tryz.prog 4 [.agg r.vals.toArray, .bool own] f F (Ret (.bool true) f F) := by
  cases own with
  | false =>
    obtain ⟨s, rfl⟩ : ∃ s, s = r := ⟨_, rfl⟩
    have ha1 := fun G => asked_fn f G s
    have ha2 := fun G => rasked_fn f G s
    have hs1 := fun G => signed_fn f G htab s
    have hs2 := fun G => rsigned_fn f G s
    have hu1 := fun G => auth_fn f G htab s
    have hu2 := fun G => rauth_fn f G s
    generalize decide s.asked = sa at ha1 ha2
    generalize s.signed = sg at hs1 hs2
    generalize s.auth = su at hu1 hu2
    refine Fn.enter Tryz.func4 rfl Tryz.ntmps4 rfl (L := [(0, _), (1, _)]) ⟨rfl, rfl, trivial⟩ fun base => ?_
    repeat ((first | apply H.seq | apply H.region))
    refine H.box (ls := s.vals) rfl rfl rfl rfl fun rb => ?_
    repeat (first | ((first | apply H.assign | apply H.len_string); (iterate 3 exact rfl)) | (apply H.fieldAddr; (iterate 3 exact rfl); exact inferInstance; exact rfl) | (apply H.load1; (iterate 3 exact rfl); apply Rd1.ofRow; (repeat (exact .here _ _ _)); (iterate 2 exact rfl)) | (first | apply H.seq | apply H.region | apply H.nil | apply H.then_normal) | ((apply H.cmp); (iterate 5 exact rfl)) | ((apply H.ar; (iterate 4 exact rfl)); (rfl); exact rfl))
    refine H.cond_dec rfl (fun hc => ?_) (fun hc => ?_)
    · clear hc
      repeat ((first | apply H.seq | apply H.region))
      refine H.callR rfl rfl rfl (works08_fn f _ htab) ?_
      repeat (first | ((apply H.assign); (iterate 3 exact rfl)) | (first | apply H.nil | apply H.then_normal) | (first | apply H.ret | apply H.then_ret))
      refine H.drop (.here _ _) ?_
      exact H.ret1 rfl rfl (fun _ h => h) ⟨rfl, rfl, rfl⟩
    · clear hc
      repeat (first | ((apply H.move); (iterate 3 exact rfl)) | (first | apply H.seq | apply H.region | apply H.nil | apply H.then_normal) | (apply H.cond_false; exact rfl) | (apply H.skip))
      refine H.drawB (by kernel_rfl) (by decide +kernel) (by first | exact blind_fn | exact blind_seq blind_fn | exact blind_seq (blind_seq blind_fn) | (repeat (first | exact blind_fn | refine blind_seq ?_ | refine blind_block ?_ | refine blind_loop ?_))) (S := [_]) rfl ?_
      refine HB.quiet [(0, false), (2, false)] 21 (by kernel_rfl) ?_
      refine HQ.loadN (ls := s.vals) rfl rfl rfl (Rd.ofRow (.here _ _ _)) rfl rfl ?_
      refine HQ.loadN (ls := s.vals) rfl rfl rfl (Rd.ofRow (.here _ _ _)) rfl rfl ?_
      refine HQ.more rfl ?_
      refine HB.ev1 (i := 1) (by kernel_rfl) rfl ?_
      refine H.callR rfl rfl rfl (ha1 _) ?_
      repeat ((apply H.nil))
      refine H.on0 rfl ?_
      refine HB.ev1 (i := 3) (by kernel_rfl) rfl ?_
      refine H.callR rfl rfl rfl (ha2 _) ?_
      repeat ((apply H.nil))
      refine H.on0 rfl ?_
      refine HB.quiet [(4, false), (5, false), (6, false), (8, false)] 15 (by kernel_rfl) ?_
      refine HQ.beq (b := true) rfl rfl rfl rfl (beq_self_eq_true _) rfl ?_
      repeat (((apply HQ.move); (iterate 3 exact rfl)))
      refine HQ.loadN (ls := s.vals) rfl rfl rfl (Rd.ofRow (.here _ _ _)) rfl rfl ?_
      refine HQ.loadN (ls := s.vals) rfl rfl rfl (Rd.ofRow (.here _ _ _)) rfl rfl ?_
      refine HQ.more rfl ?_
      refine HB.ev1 (i := 7) (by kernel_rfl) rfl ?_
      refine H.callR rfl rfl rfl (hs1 _) ?_
      repeat ((apply H.nil))
      refine H.on0 rfl ?_
      refine HB.ev1 (i := 9) (by kernel_rfl) rfl ?_
      refine H.callR rfl rfl rfl (hs2 _) ?_
      repeat ((apply H.nil))
      refine H.on0 rfl ?_
      refine HB.quiet [(10, false), (11, false), (12, false), (13, false), (15, false)] 8 (by kernel_rfl) ?_
      refine HQ.aggEq (xs := sg.vals) (ys := sg.vals) (D := 4) rfl rfl rfl rfl (by kernel_rfl) (by kernel_rfl) (by kernel_rfl) (by kernel_rfl) (by decide) (req_beq sg) rfl ?_
      repeat (first | ((apply HQ.move); (iterate 3 exact rfl)) | (apply HQ.pickT; (iterate 4 exact rfl)))
      refine HQ.loadN (ls := s.vals) rfl rfl rfl (Rd.ofRow (.here _ _ _)) rfl rfl ?_
      refine HQ.loadN (ls := s.vals) rfl rfl rfl (Rd.ofRow (.here _ _ _)) rfl rfl ?_
      refine HQ.more rfl ?_
      refine HB.ev1 (i := 14) (by kernel_rfl) rfl ?_
      refine H.callR rfl rfl rfl (hu1 _) ?_
      repeat ((apply H.nil))
      refine H.on0 rfl ?_
      refine HB.ev1 (i := 16) (by kernel_rfl) rfl ?_
      refine H.callR rfl rfl rfl (hu2 _) ?_
      repeat ((apply H.nil))
      refine H.on0 rfl ?_
      refine HB.quiet [(17, false), (18, false), (19, false)] 3 (by kernel_rfl) ?_
      refine HQ.beq (b := true) rfl rfl rfl rfl (beq_self_eq_true _) rfl ?_
      repeat (first | ((apply HQ.move); (iterate 3 exact rfl)) | (apply HQ.pickT; (iterate 4 exact rfl)))
      refine HQ.more rfl ?_
      refine HB.ev1 (i := 20) (by kernel_rfl) rfl ?_
      refine H.callR rfl rfl rfl (works08_fn f _ htab) ?_
      repeat ((apply H.nil))
      refine H.on0 rfl ?_
      refine HB.quiet [(21, false), (22, false)] 0 (by kernel_rfl) ?_
      repeat (first | ((apply HQ.assign); (iterate 3 exact rfl)) | (apply HQ.pickT; (iterate 4 exact rfl)))
      refine HQ.more rfl ?_
      refine HB.done (by kernel_rfl) ?_
      repeat (first | (apply H.then_normal) | (apply H.ret))
      refine H.drop (.here _ _) ?_
      exact H.ret1 rfl rfl (fun _ h => h) ⟨rfl, rfl, rfl⟩
  | true =>
    have hown := fun G => rsigned_fn f G r
    generalize r.signed = s at hown
    have ha1 := fun G => asked_fn f G s
    have ha2 := fun G => rasked_fn f G s
    have hs1 := fun G => signed_fn f G htab s
    have hs2 := fun G => rsigned_fn f G s
    have hu1 := fun G => auth_fn f G htab s
    have hu2 := fun G => rauth_fn f G s
    generalize decide s.asked = sa at ha1 ha2
    generalize s.signed = sg at hs1 hs2
    generalize s.auth = su at hu1 hu2
    refine Fn.enter Tryz.func4 rfl Tryz.ntmps4 rfl (L := [(0, _), (1, _)]) ⟨rfl, rfl, trivial⟩ fun base => ?_
    repeat ((first | apply H.seq | apply H.region))
    refine H.box (ls := r.vals) rfl rfl rfl rfl fun rb => ?_
    repeat (first | ((first | apply H.assign | apply H.len_string); (iterate 3 exact rfl)) | (apply H.fieldAddr; (iterate 3 exact rfl); exact inferInstance; exact rfl) | (apply H.load1; (iterate 3 exact rfl); apply Rd1.ofRow; (repeat (exact .here _ _ _)); (iterate 2 exact rfl)) | (first | apply H.seq | apply H.region | apply H.nil | apply H.then_normal) | ((apply H.cmp); (iterate 5 exact rfl)) | ((apply H.ar; (iterate 4 exact rfl)); (rfl); exact rfl))
    refine H.cond_dec rfl (fun hc => ?_) (fun hc => ?_)
    · clear hc
      repeat ((first | apply H.seq | apply H.region))
      refine H.callR rfl rfl rfl (works08_fn f _ htab) ?_
      repeat (first | ((apply H.assign); (iterate 3 exact rfl)) | (first | apply H.nil | apply H.then_normal) | (first | apply H.ret | apply H.then_ret))
      refine H.drop (.here _ _) ?_
      exact H.ret1 rfl rfl (fun _ h => h) ⟨rfl, rfl, rfl⟩
    · clear hc
      repeat (first | ((apply H.move); (iterate 3 exact rfl)) | (first | apply H.seq | apply H.region | apply H.nil | apply H.then_normal) | (apply H.cond_true; exact rfl) | (apply H.skip))
      refine H.loadN (ls := r.vals) rfl rfl rfl (Rd.ofRow (.here _ _ _)) rfl rfl ?_
      refine H.callR rfl rfl rfl (hown _) ?_
      refine H.storeN (ls := r.vals) (vs := s.vals) (ls' := s.vals) rfl rfl rfl (allOne_mem rfl) rfl rfl (Nat.le_refl 40) (.here _ _ _) ?_
      repeat ((first | apply H.seq | apply H.nil | apply H.then_normal))
      refine H.drawB (by kernel_rfl) (by decide +kernel) (by first | exact blind_fn | exact blind_seq blind_fn | exact blind_seq (blind_seq blind_fn) | (repeat (first | exact blind_fn | refine blind_seq ?_ | refine blind_block ?_ | refine blind_loop ?_))) (S := [_]) rfl ?_
      refine HB.quiet [(0, false), (2, false)] 21 (by kernel_rfl) ?_
      refine HQ.loadN (ls := s.vals) rfl rfl rfl (Rd.ofRow (.here _ _ _)) rfl rfl ?_
      refine HQ.loadN (ls := s.vals) rfl rfl rfl (Rd.ofRow (.here _ _ _)) rfl rfl ?_
      refine HQ.more rfl ?_
      refine HB.ev1 (i := 1) (by kernel_rfl) rfl ?_
      refine H.callR rfl rfl rfl (ha1 _) ?_
      repeat ((apply H.nil))
      refine H.on0 rfl ?_
      refine HB.ev1 (i := 3) (by kernel_rfl) rfl ?_
      refine H.callR rfl rfl rfl (ha2 _) ?_
      repeat ((apply H.nil))
      refine H.on0 rfl ?_
      refine HB.quiet [(4, false), (5, false), (6, false), (8, false)] 15 (by kernel_rfl) ?_
      refine HQ.beq (b := true) rfl rfl rfl rfl (beq_self_eq_true _) rfl ?_
      repeat (((apply HQ.move); (iterate 3 exact rfl)))
      refine HQ.loadN (ls := s.vals) rfl rfl rfl (Rd.ofRow (.here _ _ _)) rfl rfl ?_
      refine HQ.loadN (ls := s.vals) rfl rfl rfl (Rd.ofRow (.here _ _ _)) rfl rfl ?_
      refine HQ.more rfl ?_
      refine HB.ev1 (i := 7) (by kernel_rfl) rfl ?_
      refine H.callR rfl rfl rfl (hs1 _) ?_
      repeat ((apply H.nil))
      refine H.on0 rfl ?_
      refine HB.ev1 (i := 9) (by kernel_rfl) rfl ?_
      refine H.callR rfl rfl rfl (hs2 _) ?_
      repeat ((apply H.nil))
      refine H.on0 rfl ?_
      refine HB.quiet [(10, false), (11, false), (12, false), (13, false), (15, false)] 8 (by kernel_rfl) ?_
      refine HQ.aggEq (xs := sg.vals) (ys := sg.vals) (D := 4) rfl rfl rfl rfl (by kernel_rfl) (by kernel_rfl) (by kernel_rfl) (by kernel_rfl) (by decide) (req_beq sg) rfl ?_
      repeat (first | ((apply HQ.move); (iterate 3 exact rfl)) | (apply HQ.pickT; (iterate 4 exact rfl)))
      refine HQ.loadN (ls := s.vals) rfl rfl rfl (Rd.ofRow (.here _ _ _)) rfl rfl ?_
      refine HQ.loadN (ls := s.vals) rfl rfl rfl (Rd.ofRow (.here _ _ _)) rfl rfl ?_
      refine HQ.more rfl ?_
      refine HB.ev1 (i := 14) (by kernel_rfl) rfl ?_
      refine H.callR rfl rfl rfl (hu1 _) ?_
      repeat ((apply H.nil))
      refine H.on0 rfl ?_
      refine HB.ev1 (i := 16) (by kernel_rfl) rfl ?_
      refine H.callR rfl rfl rfl (hu2 _) ?_
      repeat ((apply H.nil))
      refine H.on0 rfl ?_
      refine HB.quiet [(17, false), (18, false), (19, false)] 3 (by kernel_rfl) ?_
      refine HQ.beq (b := true) rfl rfl rfl rfl (beq_self_eq_true _) rfl ?_
      repeat (first | ((apply HQ.move); (iterate 3 exact rfl)) | (apply HQ.pickT; (iterate 4 exact rfl)))
      refine HQ.more rfl ?_
      refine HB.ev1 (i := 20) (by kernel_rfl) rfl ?_
      refine H.callR rfl rfl rfl (works08_fn f _ htab) ?_
      repeat ((apply H.nil))
      refine H.on0 rfl ?_
      refine HB.quiet [(21, false), (22, false)] 0 (by kernel_rfl) ?_
      repeat (first | ((apply HQ.assign); (iterate 3 exact rfl)) | (apply HQ.pickT; (iterate 4 exact rfl)))
      refine HQ.more rfl ?_
      refine HB.done (by kernel_rfl) ?_
      repeat (first | (apply H.then_normal) | (apply H.ret))
      refine H.drop (.here _ _) ?_
      exact H.ret1 rfl rfl (fun _ h => h) ⟨rfl, rfl, rfl⟩
end
end Go.Proofs.YtcaofnfemogleaaGreatDoor

/- Layer 8: MessageTags. Condition: the table of the standard stands in the fragment. -/
namespace Go.Proofs.YtcaofnfemogleaaGreatDoor
set_option linter.unusedSectionVars false
set_option linter.unusedSimpArgs false
set_option linter.unusedVariables false
open Go
/-- A tag with one byte of it turned. -/
def setT (t : Nat → UInt8) (k : Nat) (v : UInt8) : Nat → UInt8 := fun j => if j = k then v else t j
theorem b32_setT (t : Nat → UInt8) {k : Nat} (v : UInt8) (hk : k < 32) : SetV (b32 t) k (.int .u8 (v.toNat : Nat)) (b32 (setT t k v)) := by
  have e : b32 (setT t k v) = (b32 t).set k (.int .u8 (v.toNat : Nat)) := by
    apply List.ext_getElem?
    intro j
    rw [List.getElem?_set]
    by_cases hj : j < 32
    · rw [b32_get _ hj, b32_get _ hj]
      by_cases hkj : k = j
      · subst hkj
        rw [if_pos rfl, if_pos (show k < (b32 t).length from hk)]
        unfold setT
        rw [if_pos rfl]
      · rw [if_neg hkj]
        unfold setT
        rw [if_neg (fun h => hkj h.symm)]
    · rw [List.getElem?_eq_none (show 32 ≤ j by omega), if_neg (by omega), List.getElem?_eq_none (show 32 ≤ j by omega)]
  rw [e]
  exact SetV.mk _ hk
theorem msg_settag (m : Msg) (q : Option Addr) (qc : Nat) {k : Nat} (v : UInt8) (hk : k < 32) : SetV (m.vals q qc) (0 + 89 + k * 1) (.int .u8 (v.toNat : Nat)) (({ m with tag := setT m.tag k v } : Msg).vals q qc) := by
  have h := (b32_setT m.tag v hk).mid ([.int .i64 m.origin, .int .u64 m.number] ++ v11 m.deps ++ m.body.vals q qc) []
  rw [List.append_nil, List.append_nil] at h
  rw [Nat.mul_one]
  exact h
theorem req_settag (r : Req) {k : Nat} (v : UInt8) (hk : k < 32) : SetV r.vals (0 + 8 + k * 1) (.int .u8 (v.toNat : Nat)) (({ r with tag := setT r.tag k v } : Req).vals) := by
  have h := (b32_setT r.tag v hk).mid [.int .i64 r.client, .int .u64 r.time, .int .u8 (r.kind.toNat : Nat), .string r.key, .string r.val, .string r.old, .string r.to, .int .u64 r.amount] []
  rw [List.append_nil, List.append_nil] at h
  rw [Nat.mul_one]
  exact h
theorem xor_back (x v : UInt8) : x ^^^ v = x ↔ v = 0 := by
  constructor
  · intro h
    have h1 : x ^^^ (x ^^^ v) = x ^^^ x := by rw [h]
    rw [← UInt8.xor_assoc, UInt8.xor_self, UInt8.zero_xor] at h1
    exact h1
  · rintro rfl
    exact UInt8.xor_zero
theorem eq32_turn (t : Nat → UInt8) {k : Nat} (v : UInt8) (hk : k < 32) : eq32 (setT t k (t k ^^^ v)) t = decide (v = 0) := by
  rw [Bool.eq_iff_iff, decide_eq_true_eq]
  refine Iff.trans eq32_iff ?_
  constructor
  · intro h
    have h1 := b32_get (setT t k (t k ^^^ v)) hk
    rw [h, b32_get t hk] at h1
    have h2 := u8_inj (Option.some.inj h1)
    unfold setT at h2
    rw [if_pos rfl] at h2
    exact (xor_back _ _).1 h2.symm
  · rintro rfl
    have e : setT t k (t k ^^^ 0) = t := by
      funext j
      unfold setT
      split
      · rename_i h; rw [h]; exact UInt8.xor_zero
      · rfl
    rw [e]
theorem Msg.right_tag (m : Msg) (u : Nat → UInt8) : ({ m with tag := u } : Msg).right = (m.may && eq32 u (Sha.numbered m.origin m.number m.tagged)) := rfl
theorem Msg.signed_right {m : Msg} (hm : m.may = true) : m.signed.right = true := by
  unfold Msg.signed
  rw [if_pos hm, Msg.right_tag, hm, eq32_refl]
  rfl
theorem Msg.turned_right {m : Msg} (hm : m.may = true) {k : Nat} (v : UInt8) (hk : k < 32) : ({ m.signed with tag := setT m.signed.tag k (m.signed.tag k ^^^ v) } : Msg).right = decide (v = 0) := by
  unfold Msg.signed
  rw [if_pos hm]
  show ({ m with tag := _ } : Msg).right = _
  rw [Msg.right_tag, hm, eq32_turn _ v hk]
  rfl
theorem Req.auth_tag (r : Req) (u : Nat → UInt8) : ({ r with tag := u } : Req).auth = (decide r.asked && eq32 u r.sig) := rfl
theorem Req.signed_asked (r : Req) : decide r.signed.asked = decide r.asked := by
  unfold Req.signed
  split
  · rfl
  · rfl
theorem Req.signed_auth {r : Req} (ha : r.asked) : r.signed.auth = true := by
  unfold Req.signed
  rw [if_pos ha, Req.auth_tag, decide_eq_true ha, eq32_refl]
  rfl
theorem Req.turned_auth {r : Req} (ha : r.asked) {k : Nat} (v : UInt8) (hk : k < 32) : ({ r.signed with tag := setT r.signed.tag k (r.signed.tag k ^^^ v) } : Req).auth = decide (v = 0) := by
  unfold Req.signed
  rw [if_pos ha]
  show ({ r with tag := _ } : Req).auth = _
  rw [Req.auth_tag, decide_eq_true ha, eq32_turn _ v hk]
  rfl
theorem u8_dec (v : UInt8) : decide (((v.toNat : Nat) : Int) = 0) = decide (v = 0) := by
  refine decide_eq_decide.2 ⟨fun h => ?_, fun h => by rw [h]; rfl⟩
  exact UInt8.toNat_inj.1 (by show v.toNat = 0; omega)
theorem row_breq {f : Frag} {A A' : List HP} {mb : Nat} {T : TypeId} {m : Msg} {q : Option Addr} {qc : Nat} (h : At A (row mb T (m.vals q qc)) A' (row mb T (m.vals q qc))) : Rd f A mb (0 + 13 + 3) m.body.req.vals := by
  have h1 := Rd.ofRow (f := f) h
  have e : m.vals q qc = ([.int .i64 m.origin, .int .u64 m.number] ++ v11 m.deps ++ [.int .u8 (m.body.kind.toNat : Nat), .int .u64 m.body.view, .int .u64 m.body.k]) ++ m.body.req.vals ++ ([.slice q m.body.q.length qc] ++ b32 m.body.dig ++ b32 m.tag) := rfl
  rw [e] at h1
  exact h1.sub rfl
section
variable (f : Frag) (F : List HP)
def FewT (x : MV) (b : Bool) : Prop := ∀ f F, Fn Tryz.prog 18 [.agg x.vals.toArray] f F (Ret (.bool b) f F)
set_option maxRecDepth 20000 in
theorem tags_few (htab : TabAt f) {x : MV} (hfm : FewT x false) {an : Nat} {by8 : UInt8} : Fn Tryz.prog 5 [.agg x.vals.toArray, .int .u8 (an : Nat), .int .u8 (by8.toNat : Nat)] f F (Ret (.bool true) f F) := by
  refine Fn.enter Tryz.func5 rfl Tryz.ntmps5 rfl (L := [(0, _), (1, _), (2, _)]) ⟨rfl, rfl, rfl, trivial⟩ fun base => ?_
  repeat ((first | apply H.seq | apply H.region))
  refine H.box (ls := x.vals) rfl rfl rfl rfl fun mb => ?_
  repeat (first | ((apply H.assign); (iterate 3 exact rfl)) | (first | apply H.seq | apply H.region | apply H.nil | apply H.then_normal))
  refine H.loadN (ls := x.vals) rfl rfl rfl (Rd.ofRow (.here _ _ _)) rfl rfl ?_
  refine H.callR rfl rfl rfl (hfm _ _) ?_
  refine H.not (b := false) (c := true) rfl rfl rfl rfl ?_
  repeat (first | (first | apply H.seq | apply H.region | apply H.nil | apply H.then_normal) | (apply H.cond_true; exact rfl))
  refine H.callR rfl rfl rfl (works08_fn f _ htab) ?_
  repeat (first | ((apply H.assign); (iterate 3 exact rfl)) | (first | apply H.nil | apply H.then_normal) | (first | apply H.ret | apply H.then_ret))
  repeat refine H.drop (.here _ _) ?_
  exact H.ret1 rfl rfl (fun _ h => h) ⟨rfl, rfl, rfl⟩
set_option maxRecDepth 20000 in
theorem tags_no (htab : TabAt f) {x y : MV} (hfm : FewT x true) {an : Nat} {by8 : UInt8} (htg : ∀ G, Fn Tryz.prog 19 [.agg x.vals.toArray] f G (Ret (.agg y.vals.toArray) f G))
    (hmay : ∀ G, Fn Tryz.prog 20 [.agg x.vals.toArray] f G (Ret (.bool false) f G)) (hr1 : ∀ G, Fn Tryz.prog 21 [.agg x.vals.toArray] f G (Ret (.bool false) f G)) (hr2 : ∀ G, Fn Tryz.prog 21 [.agg y.vals.toArray] f G (Ret (.bool false) f G)) :
    Fn Tryz.prog 5 [.agg x.vals.toArray, .int .u8 (an : Nat), .int .u8 (by8.toNat : Nat)] f F (Ret (.bool true) f F) := by
  refine Fn.enter Tryz.func5 rfl Tryz.ntmps5 rfl (L := [(0, _), (1, _), (2, _)]) ⟨rfl, rfl, rfl, trivial⟩ fun base => ?_
  repeat ((first | apply H.seq | apply H.region))
  refine H.box (ls := x.vals) rfl rfl rfl rfl fun mb => ?_
  repeat (first | ((apply H.assign); (iterate 3 exact rfl)) | (first | apply H.seq | apply H.region | apply H.nil | apply H.then_normal))
  refine H.loadN (ls := x.vals) rfl rfl rfl (Rd.ofRow (.here _ _ _)) rfl rfl ?_
  refine H.callR rfl rfl rfl (hfm _ _) ?_
  refine H.not (b := true) (c := false) rfl rfl rfl rfl ?_
  repeat (first | (first | apply H.seq | apply H.region | apply H.nil | apply H.then_normal) | (apply H.cond_false; exact rfl) | (apply H.skip))
  refine H.loadN (ls := x.vals) rfl rfl rfl (Rd.ofRow (.here _ _ _)) rfl rfl ?_
  refine H.callR rfl rfl rfl (htg _) ?_
  refine H.alloc (ls := msg0.vals none 0) rfl rfl rfl fun xb => ?_
  refine H.storeN (ls := msg0.vals none 0) (vs := y.vals) (ls' := y.vals) rfl rfl rfl (allOne_mem rfl) (MV.len _) (splice_all ((MV.len _).trans (Msg.vals_len _ _ _).symm)) (by rw [MV.len, Msg.vals_len]; decide) (.here _ _ _) ?_
  repeat ((first | apply H.seq | apply H.region | apply H.nil | apply H.then_normal))
  refine H.loadN (ls := x.vals) rfl rfl rfl (Rd.ofRow (.there _ (.here _ _ _))) rfl rfl ?_
  refine H.callR rfl rfl rfl (hmay _) ?_
  refine H.not (b := false) (c := true) rfl rfl rfl rfl ?_
  repeat (first | (first | apply H.seq | apply H.region | apply H.nil | apply H.then_normal) | (apply H.cond_true; exact rfl))
  refine H.loadN (ls := x.vals) rfl rfl rfl (Rd.ofRow (.there _ (.here _ _ _))) rfl rfl ?_
  refine H.callR rfl rfl rfl (hr1 _) ?_
  refine H.not (b := false) (c := true) rfl rfl rfl rfl ?_
  repeat (((apply H.move); (iterate 3 exact rfl)))
  refine H.loadN (ls := y.vals) rfl rfl rfl (Rd.ofRow (.here _ _ _)) rfl rfl ?_
  refine H.callR rfl rfl rfl (hr2 _) ?_
  refine H.not (b := false) (c := true) rfl rfl rfl rfl ?_
  repeat (first | ((apply H.move); (iterate 3 exact rfl)) | (apply H.pickT; (iterate 4 exact rfl)))
  refine H.callR rfl rfl rfl (works08_fn f _ htab) ?_
  repeat (first | ((apply H.assign); (iterate 3 exact rfl)) | (first | apply H.nil | apply H.then_normal) | (apply H.pickT; (iterate 4 exact rfl)) | (first | apply H.ret | apply H.then_ret))
  repeat refine H.drop (.here _ _) ?_
  exact H.ret1 rfl rfl (fun _ h => h) ⟨rfl, rfl, rfl⟩
set_option maxHeartbeats 1600000 in
set_option maxRecDepth 20000 in
theorem tags_yes (htab : TabAt f) {x y z : MV} (hfm : FewT x true) {an : Nat} (han : an ≤ 255) {by8 : UInt8} (htg : ∀ G, Fn Tryz.prog 19 [.agg x.vals.toArray] f G (Ret (.agg y.vals.toArray) f G))
    (hmay : ∀ G, Fn Tryz.prog 20 [.agg x.vals.toArray] f G (Ret (.bool true) f G)) (hr1 : ∀ G, Fn Tryz.prog 21 [.agg y.vals.toArray] f G (Ret (.bool true) f G)) (hr2 : ∀ G, Fn Tryz.prog 21 [.agg z.vals.toArray] f G (Ret (.bool (decide (by8 = 0))) f G))
    (hz : z = ⟨{ y.m with tag := setT y.m.tag (an % 32) (y.m.tag (an % 32) ^^^ by8) }, y.qp, y.qc⟩) {q : Req} (hq : q = x.m.body.req.signed) :
    Fn Tryz.prog 5 [.agg x.vals.toArray, .int .u8 (an : Nat), .int .u8 (by8.toNat : Nat)] f F (Ret (.bool true) f F) := by
  have hk : an % 32 < 32 := Nat.mod_lt _ (by decide)
  have hset : SetV y.vals (0 + 89 + (an % 32) * 1) (.int .u8 ((y.m.tag (an % 32) ^^^ by8).toNat : Nat)) z.vals := by
    rw [hz]
    exact msg_settag y.m y.qp y.qc (y.m.tag (an % 32) ^^^ by8) hk
  have hsg := fun G => signed_fn f G htab x.m.body.req
  rw [← hq] at hsg
  have hask := fun G => asked_fn f G q
  have hau := fun G => auth_fn f G htab q
  have hap := fun G => auth_fn f G htab ({ q with tag := setT q.tag (an % 32) (q.tag (an % 32) ^^^ by8) } : Req)
  have hb2 : (decide (by8 = 0) == decide (((by8.toNat : Nat) : Int) = 0)) = true := by rw [u8_dec, beq_self_eq_true]
  have hb1 : (!(decide (by8 = 0) == decide (((by8.toNat : Nat) : Int) = 0))) = false := by rw [hb2]; rfl
  rw [show decide q.asked = decide x.m.body.req.asked by rw [hq]; exact Req.signed_asked _] at hask
  by_cases ha : x.m.body.req.asked
  · rw [decide_eq_true ha] at hask
    rw [show q.auth = true by rw [hq]; exact Req.signed_auth ha] at hau
    rw [show ({ q with tag := setT q.tag (an % 32) (q.tag (an % 32) ^^^ by8) } : Req).auth = decide (by8 = 0) by rw [hq]; exact Req.turned_auth ha by8 hk] at hap
    clear hq hz
    refine Fn.enter Tryz.func5 rfl Tryz.ntmps5 rfl (L := [(0, _), (1, _), (2, _)]) ⟨rfl, rfl, rfl, trivial⟩ fun base => ?_
    repeat ((first | apply H.seq | apply H.region))
    refine H.box (ls := x.vals) rfl rfl rfl rfl fun mb => ?_
    repeat (first | ((apply H.assign); (iterate 3 exact rfl)) | (first | apply H.seq | apply H.region | apply H.nil | apply H.then_normal))
    refine H.loadN (ls := x.vals) rfl rfl rfl (Rd.ofRow (.here _ _ _)) rfl rfl ?_
    refine H.callR rfl rfl rfl (hfm _ _) ?_
    refine H.not (b := true) (c := false) rfl rfl rfl rfl ?_
    repeat (first | (first | apply H.seq | apply H.region | apply H.nil | apply H.then_normal) | (apply H.cond_false; exact rfl) | (apply H.skip))
    refine H.loadN (ls := x.vals) rfl rfl rfl (Rd.ofRow (.here _ _ _)) rfl rfl ?_
    refine H.callR rfl rfl rfl (htg _) ?_
    refine H.alloc (ls := msg0.vals none 0) rfl rfl rfl fun xb => ?_
    refine H.storeN (ls := msg0.vals none 0) (vs := y.vals) (ls' := y.vals) rfl rfl rfl (allOne_mem rfl) (MV.len _) (splice_all ((MV.len _).trans (Msg.vals_len _ _ _).symm)) (by rw [MV.len, Msg.vals_len]; decide) (.here _ _ _) ?_
    repeat ((first | apply H.seq | apply H.region | apply H.nil | apply H.then_normal))
    refine H.loadN (ls := x.vals) rfl rfl rfl (Rd.ofRow (.there _ (.here _ _ _))) rfl rfl ?_
    refine H.callR rfl rfl rfl (hmay _) ?_
    refine H.not (b := true) (c := false) rfl rfl rfl rfl ?_
    repeat (first | (first | apply H.seq | apply H.region | apply H.nil | apply H.then_normal) | (apply H.cond_false; exact rfl) | (apply H.skip))
    refine H.loadN (ls := y.vals) rfl rfl rfl (Rd.ofRow (.here _ _ _)) rfl rfl ?_
    refine H.alloc (ls := msg0.vals none 0) rfl rfl rfl fun yb => ?_
    refine H.storeN (ls := msg0.vals none 0) (vs := y.vals) (ls' := y.vals) rfl rfl rfl (allOne_mem rfl) (MV.len _) (splice_all ((MV.len _).trans (Msg.vals_len _ _ _).symm)) (by rw [MV.len, Msg.vals_len]; decide) (.here _ _ _) ?_
    repeat (first | ((apply H.move); (iterate 3 exact rfl)) | (first | apply H.seq | apply H.region | apply H.nil | apply H.then_normal) | ((apply H.conv_int; (iterate 2 exact rfl)); (with_reducible apply wr_i64; omega); exact rfl))
    refine H.rem (z := ((an % 32 : Nat) : Int)) rfl rfl rfl (by decide) rfl rfl ?_
    repeat (first | ((apply H.move); (iterate 3 exact rfl)) | ((apply H.conv_int; (iterate 2 exact rfl)); (with_reducible apply wr_i64; omega); exact rfl))
    refine H.rem (z := ((an % 32 : Nat) : Int)) rfl rfl rfl (by decide) rfl rfl ?_
    repeat ((apply H.fieldAddr; (iterate 3 exact rfl); exact inferInstance; exact rfl))
    refine H.index_array (i := an % 32) rfl rfl rfl rfl hk rfl ?_
    refine H.load1 rfl rfl rfl (.of (msg_tag (m := y.m) (q := y.qp) (qc := y.qc) (.here _ _ _)) (by rw [Nat.mul_one]; exact b32_get y.m.tag hk)) rfl ?_
    repeat (((apply H.move); (iterate 3 exact rfl)))
    refine H.bits (op := .xor) rfl rfl rfl (u8_xor _ _) rfl rfl ?_
    repeat ((apply H.fieldAddr; (iterate 3 exact rfl); exact inferInstance; exact rfl))
    refine H.index_array (i := an % 32) rfl rfl rfl rfl hk rfl ?_
    refine H.store1 (ls' := z.vals) rfl rfl rfl rfl (.here _ _ _) hset ?_
    repeat (first | (apply H.fieldAddr; (iterate 3 exact rfl); exact inferInstance; exact rfl) | (first | apply H.seq | apply H.region | apply H.nil | apply H.then_normal))
    refine H.loadN (ls := x.m.body.req.vals) rfl rfl rfl (row_breq (m := x.m) (q := x.qp) (qc := x.qc) (.there _ (.there _ (.here _ _ _)))) rfl rfl ?_
    refine H.callR rfl rfl rfl (hsg _) ?_
    refine H.alloc (ls := Req.zero.vals) rfl rfl rfl fun qb => ?_
    refine H.storeN (ls := Req.zero.vals) (vs := q.vals) (ls' := q.vals) rfl rfl rfl (allOne_mem rfl) rfl rfl (Nat.le_refl 40) (.here _ _ _) ?_
    repeat ((first | apply H.seq | apply H.region | apply H.nil | apply H.then_normal))
    refine H.loadN (ls := q.vals) rfl rfl rfl (Rd.ofRow (.here _ _ _)) rfl rfl ?_
    refine H.alloc (ls := Req.zero.vals) rfl rfl rfl fun pb => ?_
    refine H.storeN (ls := Req.zero.vals) (vs := q.vals) (ls' := q.vals) rfl rfl rfl (allOne_mem rfl) rfl rfl (Nat.le_refl 40) (.here _ _ _) ?_
    repeat (first | ((apply H.move); (iterate 3 exact rfl)) | (first | apply H.seq | apply H.region | apply H.nil | apply H.then_normal) | ((apply H.conv_int; (iterate 2 exact rfl)); (with_reducible apply wr_i64; omega); exact rfl))
    refine H.rem (z := ((an % 32 : Nat) : Int)) rfl rfl rfl (by decide) rfl rfl ?_
    repeat (first | ((apply H.move); (iterate 3 exact rfl)) | ((apply H.conv_int; (iterate 2 exact rfl)); (with_reducible apply wr_i64; omega); exact rfl))
    refine H.rem (z := ((an % 32 : Nat) : Int)) rfl rfl rfl (by decide) rfl rfl ?_
    repeat ((apply H.fieldAddr; (iterate 3 exact rfl); exact inferInstance; exact rfl))
    refine H.index_array (i := an % 32) rfl rfl rfl rfl hk rfl ?_
    refine H.load1 rfl rfl rfl (.of (req_tag (r := q) (.here _ _ _)) (by rw [Nat.mul_one]; exact b32_get q.tag hk)) rfl ?_
    repeat (((apply H.move); (iterate 3 exact rfl)))
    refine H.bits (op := .xor) rfl rfl rfl (u8_xor _ _) rfl rfl ?_
    repeat ((apply H.fieldAddr; (iterate 3 exact rfl); exact inferInstance; exact rfl))
    refine H.index_array (i := an % 32) rfl rfl rfl rfl hk rfl ?_
    refine H.store1 (ls' := ({ q with tag := setT q.tag (an % 32) (q.tag (an % 32) ^^^ by8) } : Req).vals) rfl rfl rfl rfl (.here _ _ _) (req_settag q _ hk) ?_
    repeat ((first | apply H.seq | apply H.region | apply H.nil | apply H.then_normal))
    refine H.loadN (ls := q.vals) rfl rfl rfl (Rd.ofRow (.there _ (.here _ _ _))) rfl rfl ?_
    refine H.callR rfl rfl rfl (hask _) ?_
    repeat (((apply H.move); (iterate 3 exact rfl)))
    refine H.loadN (ls := q.vals) rfl rfl rfl (Rd.ofRow (.there _ (.here _ _ _))) rfl rfl ?_
    refine H.callR rfl rfl rfl (hau _) ?_
    refine H.not (b := true) (c := false) rfl rfl rfl rfl ?_
    repeat (((apply H.move); (iterate 3 exact rfl)))
    refine H.loadN (ls := ({ q with tag := setT q.tag (an % 32) (q.tag (an % 32) ^^^ by8) } : Req).vals) rfl rfl rfl (Rd.ofRow (.here _ _ _)) rfl rfl ?_
    refine H.callR rfl rfl rfl (hap _) ?_
    repeat (first | ((apply H.move); (iterate 3 exact rfl)) | ((apply H.cmp); (iterate 5 exact rfl)))
    refine H.bne (b := false) rfl rfl rfl rfl hb1 rfl ?_
    repeat (first | (first | apply H.seq | apply H.region | apply H.nil | apply H.then_normal) | (apply H.pickT; (iterate 4 exact rfl)) | ((apply H.pickF); (iterate 4 exact rfl)) | (apply H.cond_false; exact rfl) | (apply H.skip))
    refine H.loadN (ls := y.vals) rfl rfl rfl (Rd.ofRow (.there _ (.there _ (.there _ (.here _ _ _))))) rfl rfl ?_
    refine H.callR rfl rfl rfl (hr1 _) ?_
    repeat (((apply H.move); (iterate 3 exact rfl)))
    refine H.loadN (ls := z.vals) rfl rfl rfl (Rd.ofRow (.there _ (.there _ (.here _ _ _)))) rfl rfl ?_
    refine H.callR rfl rfl rfl (hr2 _) ?_
    repeat (first | ((apply H.move); (iterate 3 exact rfl)) | ((apply H.cmp); (iterate 5 exact rfl)))
    refine H.beq (b := true) rfl rfl rfl rfl hb2 rfl ?_
    repeat (first | ((apply H.move); (iterate 3 exact rfl)) | (apply H.pickT; (iterate 4 exact rfl)))
    refine H.callR rfl rfl rfl (works08_fn f _ htab) ?_
    repeat (first | ((apply H.assign); (iterate 3 exact rfl)) | (first | apply H.nil | apply H.then_normal) | (apply H.pickT; (iterate 4 exact rfl)) | (apply H.ret))
    repeat refine H.drop (.here _ _) ?_
    exact H.ret1 rfl rfl (fun _ h => h) ⟨rfl, rfl, rfl⟩
  · rw [decide_eq_false ha] at hask
    clear hq hz
    refine Fn.enter Tryz.func5 rfl Tryz.ntmps5 rfl (L := [(0, _), (1, _), (2, _)]) ⟨rfl, rfl, rfl, trivial⟩ fun base => ?_
    repeat ((first | apply H.seq | apply H.region))
    refine H.box (ls := x.vals) rfl rfl rfl rfl fun mb => ?_
    repeat (first | ((apply H.assign); (iterate 3 exact rfl)) | (first | apply H.seq | apply H.region | apply H.nil | apply H.then_normal))
    refine H.loadN (ls := x.vals) rfl rfl rfl (Rd.ofRow (.here _ _ _)) rfl rfl ?_
    refine H.callR rfl rfl rfl (hfm _ _) ?_
    refine H.not (b := true) (c := false) rfl rfl rfl rfl ?_
    repeat (first | (first | apply H.seq | apply H.region | apply H.nil | apply H.then_normal) | (apply H.cond_false; exact rfl) | (apply H.skip))
    refine H.loadN (ls := x.vals) rfl rfl rfl (Rd.ofRow (.here _ _ _)) rfl rfl ?_
    refine H.callR rfl rfl rfl (htg _) ?_
    refine H.alloc (ls := msg0.vals none 0) rfl rfl rfl fun xb => ?_
    refine H.storeN (ls := msg0.vals none 0) (vs := y.vals) (ls' := y.vals) rfl rfl rfl (allOne_mem rfl) (MV.len _) (splice_all ((MV.len _).trans (Msg.vals_len _ _ _).symm)) (by rw [MV.len, Msg.vals_len]; decide) (.here _ _ _) ?_
    repeat ((first | apply H.seq | apply H.region | apply H.nil | apply H.then_normal))
    refine H.loadN (ls := x.vals) rfl rfl rfl (Rd.ofRow (.there _ (.here _ _ _))) rfl rfl ?_
    refine H.callR rfl rfl rfl (hmay _) ?_
    refine H.not (b := true) (c := false) rfl rfl rfl rfl ?_
    repeat (first | (first | apply H.seq | apply H.region | apply H.nil | apply H.then_normal) | (apply H.cond_false; exact rfl) | (apply H.skip))
    refine H.loadN (ls := y.vals) rfl rfl rfl (Rd.ofRow (.here _ _ _)) rfl rfl ?_
    refine H.alloc (ls := msg0.vals none 0) rfl rfl rfl fun yb => ?_
    refine H.storeN (ls := msg0.vals none 0) (vs := y.vals) (ls' := y.vals) rfl rfl rfl (allOne_mem rfl) (MV.len _) (splice_all ((MV.len _).trans (Msg.vals_len _ _ _).symm)) (by rw [MV.len, Msg.vals_len]; decide) (.here _ _ _) ?_
    repeat (first | ((apply H.move); (iterate 3 exact rfl)) | (first | apply H.seq | apply H.region | apply H.nil | apply H.then_normal) | ((apply H.conv_int; (iterate 2 exact rfl)); (with_reducible apply wr_i64; omega); exact rfl))
    refine H.rem (z := ((an % 32 : Nat) : Int)) rfl rfl rfl (by decide) rfl rfl ?_
    repeat (first | ((apply H.move); (iterate 3 exact rfl)) | ((apply H.conv_int; (iterate 2 exact rfl)); (with_reducible apply wr_i64; omega); exact rfl))
    refine H.rem (z := ((an % 32 : Nat) : Int)) rfl rfl rfl (by decide) rfl rfl ?_
    repeat ((apply H.fieldAddr; (iterate 3 exact rfl); exact inferInstance; exact rfl))
    refine H.index_array (i := an % 32) rfl rfl rfl rfl hk rfl ?_
    refine H.load1 rfl rfl rfl (.of (msg_tag (m := y.m) (q := y.qp) (qc := y.qc) (.here _ _ _)) (by rw [Nat.mul_one]; exact b32_get y.m.tag hk)) rfl ?_
    repeat (((apply H.move); (iterate 3 exact rfl)))
    refine H.bits (op := .xor) rfl rfl rfl (u8_xor _ _) rfl rfl ?_
    repeat ((apply H.fieldAddr; (iterate 3 exact rfl); exact inferInstance; exact rfl))
    refine H.index_array (i := an % 32) rfl rfl rfl rfl hk rfl ?_
    refine H.store1 (ls' := z.vals) rfl rfl rfl rfl (.here _ _ _) hset ?_
    repeat (first | (apply H.fieldAddr; (iterate 3 exact rfl); exact inferInstance; exact rfl) | (first | apply H.seq | apply H.region | apply H.nil | apply H.then_normal))
    refine H.loadN (ls := x.m.body.req.vals) rfl rfl rfl (row_breq (m := x.m) (q := x.qp) (qc := x.qc) (.there _ (.there _ (.here _ _ _)))) rfl rfl ?_
    refine H.callR rfl rfl rfl (hsg _) ?_
    refine H.alloc (ls := Req.zero.vals) rfl rfl rfl fun qb => ?_
    refine H.storeN (ls := Req.zero.vals) (vs := q.vals) (ls' := q.vals) rfl rfl rfl (allOne_mem rfl) rfl rfl (Nat.le_refl 40) (.here _ _ _) ?_
    repeat ((first | apply H.seq | apply H.region | apply H.nil | apply H.then_normal))
    refine H.loadN (ls := q.vals) rfl rfl rfl (Rd.ofRow (.here _ _ _)) rfl rfl ?_
    refine H.alloc (ls := Req.zero.vals) rfl rfl rfl fun pb => ?_
    refine H.storeN (ls := Req.zero.vals) (vs := q.vals) (ls' := q.vals) rfl rfl rfl (allOne_mem rfl) rfl rfl (Nat.le_refl 40) (.here _ _ _) ?_
    repeat (first | ((apply H.move); (iterate 3 exact rfl)) | (first | apply H.seq | apply H.region | apply H.nil | apply H.then_normal) | ((apply H.conv_int; (iterate 2 exact rfl)); (with_reducible apply wr_i64; omega); exact rfl))
    refine H.rem (z := ((an % 32 : Nat) : Int)) rfl rfl rfl (by decide) rfl rfl ?_
    repeat (first | ((apply H.move); (iterate 3 exact rfl)) | ((apply H.conv_int; (iterate 2 exact rfl)); (with_reducible apply wr_i64; omega); exact rfl))
    refine H.rem (z := ((an % 32 : Nat) : Int)) rfl rfl rfl (by decide) rfl rfl ?_
    repeat ((apply H.fieldAddr; (iterate 3 exact rfl); exact inferInstance; exact rfl))
    refine H.index_array (i := an % 32) rfl rfl rfl rfl hk rfl ?_
    refine H.load1 rfl rfl rfl (.of (req_tag (r := q) (.here _ _ _)) (by rw [Nat.mul_one]; exact b32_get q.tag hk)) rfl ?_
    repeat (((apply H.move); (iterate 3 exact rfl)))
    refine H.bits (op := .xor) rfl rfl rfl (u8_xor _ _) rfl rfl ?_
    repeat ((apply H.fieldAddr; (iterate 3 exact rfl); exact inferInstance; exact rfl))
    refine H.index_array (i := an % 32) rfl rfl rfl rfl hk rfl ?_
    refine H.store1 (ls' := ({ q with tag := setT q.tag (an % 32) (q.tag (an % 32) ^^^ by8) } : Req).vals) rfl rfl rfl rfl (.here _ _ _) (req_settag q _ hk) ?_
    repeat ((first | apply H.seq | apply H.region | apply H.nil | apply H.then_normal))
    refine H.loadN (ls := q.vals) rfl rfl rfl (Rd.ofRow (.there _ (.here _ _ _))) rfl rfl ?_
    refine H.callR rfl rfl rfl (hask _) ?_
    repeat (first | ((apply H.move); (iterate 3 exact rfl)) | (first | apply H.seq | apply H.region | apply H.nil | apply H.then_normal) | (apply H.pass; (iterate 2 exact rfl)) | ((apply H.pickF); (iterate 4 exact rfl)) | (apply H.cond_false; exact rfl) | (apply H.skip))
    refine H.loadN (ls := y.vals) rfl rfl rfl (Rd.ofRow (.there _ (.there _ (.there _ (.here _ _ _))))) rfl rfl ?_
    refine H.callR rfl rfl rfl (hr1 _) ?_
    repeat (((apply H.move); (iterate 3 exact rfl)))
    refine H.loadN (ls := z.vals) rfl rfl rfl (Rd.ofRow (.there _ (.there _ (.here _ _ _)))) rfl rfl ?_
    refine H.callR rfl rfl rfl (hr2 _) ?_
    repeat (first | ((apply H.move); (iterate 3 exact rfl)) | ((apply H.cmp); (iterate 5 exact rfl)))
    refine H.beq (b := true) rfl rfl rfl rfl hb2 rfl ?_
    repeat (first | ((apply H.move); (iterate 3 exact rfl)) | (apply H.pickT; (iterate 4 exact rfl)))
    refine H.callR rfl rfl rfl (works08_fn f _ htab) ?_
    repeat (first | ((apply H.assign); (iterate 3 exact rfl)) | (first | apply H.nil | apply H.then_normal) | (apply H.pickT; (iterate 4 exact rfl)) | (apply H.ret))
    repeat refine H.drop (.here _ _) ?_
    exact H.ret1 rfl rfl (fun _ h => h) ⟨rfl, rfl, rfl⟩
set_option maxRecDepth 20000 in
theorem tags_fn (htab : TabAt f) {x : MV} (hx : x.Has f) {an : Nat} (han : an ≤ 255) {by8 : UInt8} : Fn Tryz.prog 5 [.agg x.vals.toArray, .int .u8 (an : Nat), .int .u8 (by8.toNat : Nat)] f F (Ret (.bool true) f F) := by
  obtain ⟨fm, hfmq, hfm⟩ := few08_fn x
  cases fm with
  | false => exact tags_few f F htab hfm
  | true =>
    have hxq := hfmq rfl
    have hg : x.Good f := ⟨hx.1, by omega, hx.2⟩
    have htg := fun G => rtagged_fn (qc := x.qc) f G hg.1 (by have := hg.2.1; omega)
    have hmay := fun G => mmay_fn f G hg
    have hsb : x.m.signed.body = x.m.body := by unfold Msg.signed; split <;> rfl
    have hy : (⟨x.m.signed, x.qp, x.qc⟩ : MV).Good f := by
      refine ⟨?_, ?_, ?_⟩
      · show QAt f x.qp x.m.signed.body.q
        rw [hsb]; exact hg.1
      · show x.m.signed.body.q.length ≤ _
        rw [hsb]; exact hg.2.1
      · show x.m.signed.body.Ok
        rw [hsb]; exact hg.2.2
    have hr1 := fun G => mright_fn f G htab hy
    by_cases hm : x.m.may = true
    · have hk : an % 32 < 32 := Nat.mod_lt _ (by decide)
      have hz : (⟨{ x.m.signed with tag := setT x.m.signed.tag (an % 32) (x.m.signed.tag (an % 32) ^^^ by8) }, x.qp, x.qc⟩ : MV).Good f := hy
      have hr2 := fun G => mright_fn f G htab hz
      rw [show (⟨{ x.m.signed with tag := setT x.m.signed.tag (an % 32) (x.m.signed.tag (an % 32) ^^^ by8) }, x.qp, x.qc⟩ : MV).m.right = decide (by8 = 0) from Msg.turned_right hm by8 hk] at hr2
      rw [show (⟨x.m.signed, x.qp, x.qc⟩ : MV).m.right = true from Msg.signed_right hm] at hr1
      rw [hm] at hmay
      exact tags_yes f F htab (y := ⟨x.m.signed, x.qp, x.qc⟩) hfm han htg hmay hr1 hr2 rfl rfl
    · have hsg : x.m.signed = x.m := by unfold Msg.signed; rw [if_neg hm]
      have hrx := fun G => mright_fn f G htab hg
      have hno : x.m.right = false := by unfold Msg.right; rw [Bool.eq_false_iff.2 hm]; rfl
      rw [show (⟨x.m.signed, x.qp, x.qc⟩ : MV).m.right = false by show x.m.signed.right = false; rw [hsg]; exact hno] at hr1
      rw [hno] at hrx
      rw [Bool.eq_false_iff.2 hm] at hmay
      exact tags_no f F htab (y := ⟨x.m.signed, x.qp, x.qc⟩) hfm htg hmay hrx hr1
end
end Go.Proofs.YtcaofnfemogleaaGreatDoor

/- Layer 8: bytes that a law is given. -/
namespace Go.Proofs.YtcaofnfemogleaaGreatDoor
set_option linter.unusedSectionVars false
set_option linter.unusedSimpArgs false
set_option linter.unusedVariables false
open Go Go.ChangeShapes Go.WideShapes Go.RowKit Go.Deep
theorem reads_byte {W : World} {cs : List Value} (h : Reads Tryz.prog W 5 cs) : ∃ x : UInt8, True ∧ cs = [.int .u8 (x.toNat : Nat)] := by
  obtain ⟨z, rfl, hz⟩ := h.int Tryz.underlying5
  exact ⟨UInt8.ofNat z.toNat, trivial, by rw [u8_back hz]⟩
theorem listAt_bat {f : Frag} {p : Option Addr} {l : List UInt8} (h : ListAt f p 1 (fun x : UInt8 => [Value.int .u8 (x.toNat : Nat)]) l) : BAt f p l := by
  cases l with
  | nil => exact .inl rfl
  | cons x0 r =>
    obtain ⟨b, off, cs, T, fr, h1, h2, _⟩ := h 0 x0 rfl
    refine .inr ⟨b, off, cs, T, fr, h1, h2, fun i hi => ?_⟩
    have hx : (x0 :: r)[i]? = some (x0 :: r)[i] := List.getElem?_eq_getElem hi
    obtain ⟨b', off', cs', T', fr', g1, g2, g3⟩ := h i _ hx
    rw [h1] at g1
    cases g1
    rw [h2] at g2
    cases g2
    have h3 := g3 0 (show 0 < 1 by decide)
    rw [Nat.mul_one, Nat.add_zero] at h3
    rw [h3]
    unfold bytesV
    rw [List.getElem?_map, hx]
    rfl
theorem ArgOk.bytes {W : World} {v : Value} {t : TypeId} (ht : Tryz.prog.underlying t = some (.slice 5)) (h : ArgOk Tryz.prog W t v) : ∃ (p : Option Addr) (c : Nat) (l : List UInt8), v = .slice p l.length c ∧ l.length ≤ maxLen ∧ BAt (memOf W) p l := by
  obtain ⟨p, c, xs, rfl, h1, h2, _, hat⟩ := h.list (sz := 1) ht (by kernel_rfl) (by decide) fun cs => reads_byte
  exact ⟨p, c, xs, rfl, Nat.le_trans h1 h2, listAt_bat hat⟩
theorem ArgOk.bytesC {W : World} {v : Value} {t : TypeId} (ht : Tryz.prog.underlying t = some (.slice 5)) (h : ArgOk Tryz.prog W t v) : ∃ (p : Option Addr) (c : Nat) (l : List UInt8), v = .slice p l.length c ∧ l.length ≤ c ∧ c ≤ maxLen ∧ BAt (memOf W) p l := by
  obtain ⟨p, c, xs, rfl, h1, h2, _, hat⟩ := h.list (sz := 1) ht (by kernel_rfl) (by decide) fun cs => reads_byte
  exact ⟨p, c, xs, rfl, h1, h2, listAt_bat hat⟩
theorem okWide_arr {P : Program} {W : World} {r : Reach} {base n : Nat} {t e : TypeId} {v : Value} (ht : P.underlying t = some (.array n e)) (h : Value.okWide P W r base t v) : ∃ cs, v = .agg cs := by
  simp only [Value.okWide, ht] at h
  obtain ⟨cs, h1, _⟩ := h
  exact ⟨cs, h1⟩
set_option maxRecDepth 20000 in
theorem argOk_32 {W : World} {v : Value} (h : ArgOk Tryz.prog W 24 v) : ∃ d : Nat → UInt8, v = .agg (b32 d).toArray := by
  obtain ⟨⟨b, h1⟩, h2⟩ := h
  obtain ⟨cs, rfl⟩ := okWide_arr Tryz.underlying24 h1
  obtain ⟨d, hd⟩ := reads_32 h2
  have hd : cs.toList = b32 d := hd
  exact ⟨d, by rw [← hd, Array.toArray_toList]⟩
theorem ArgOk.bool {P : Program} {W : World} {v : Value} {t : TypeId} (ht : P.underlying t = some .bool) (h : ArgOk P W t v) : ∃ b, v = .bool b := by
  obtain ⟨⟨_, h1⟩, _⟩ := h
  exact okWide_bool ht h1
end Go.Proofs.YtcaofnfemogleaaGreatDoor

/- Rows whose laws read the table of sha: what is given of the program, and what the row's condition says. -/
namespace Go.Proofs.YtcaofnfemogleaaGreatDoor
set_option linter.unusedSectionVars false
set_option linter.unusedSimpArgs false
set_option linter.unusedVariables false
open Go Go.ChangeShapes Go.WideShapes Go.RowKit Go.Deep
theorem Tryz.own : ownKnob Tryz.prog.godebug = none := by kernel_rfl
theorem Tryz.laidOut : laidOutB Tryz.prog = true := by kernel_rfl
abbrev laidL : List (String × DataW Unit) := [("ratchet/sha.table", Rows.laid_ratchet_sha_table)]
theorem door_met (os : Os) (args : Array Value) : laidMetH Tryz.prog laidL ((World.doorLaid Tryz.prog 400 os).forCall (fun _ _ => 0) ⟨#[], args, []⟩).memory :=
  laidMetH_of_parts3 (fuel := 8) (laidMet_of_run' 8 (by kernel_rfl) (by kernel_rfl)) (by kernel_rfl) (by kernel_rfl)
theorem tab_eq : (Rows.laid_ratchet_sha_table : DataW Unit) = .agg ((Sha.k.map fun x => ((x.toNat : Nat) : Int)).map fun z => .lit (.int .u32 z)) := by kernel_rfl
theorem tab_of {W : World} (h : laidMetH Tryz.prog laidL W) : TabAt (memOf W) := by
  have h2 : laidMetH Tryz.prog [("ratchet/sha.table", .agg ((Sha.k.map fun x => ((x.toNat : Nat) : Int)).map fun z => .lit (.int .u32 z)))] W := by rw [← tab_eq]; exact h
  exact laid_ints h2 (by kernel_rfl) (by kernel_rfl) (t := 118) (e := 111) Tryz.underlying118 Tryz.underlying111 (by kernel_rfl)
end Go.Proofs.YtcaofnfemogleaaGreatDoor
