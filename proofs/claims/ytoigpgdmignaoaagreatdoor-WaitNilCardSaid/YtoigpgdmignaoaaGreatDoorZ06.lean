/- Parts of the proof, one behind the other, each under its own heading. No conditions. -/
import Derived.Test.YtoigpgdmignaoaaGreatDoorZ05
import Derived.OpenShut
import Derived.Test.YtoigpgdmignaoaaGreatDoorRows
set_option linter.unusedSectionVars false
set_option linter.unusedSimpArgs false
set_option linter.unusedVariables false
/- Layer 8: a message that a law is given. -/
namespace Go.Proofs.YtoigpgdmignaoaaGreatDoor
open Go Go.ChangeShapes Go.WideShapes Go.RowKit Go.Deep
/-! ### Cells of arrays, strings and structs -/
theorem Reads.string {P : Program} {W : World} {t : TypeId} {cs : List Value} (ht : P.underlying t = some .string) (h : Reads P W t cs) : ∃ s : ByteArray, cs = [.string s] ∧ s.size ≤ maxLen := by
  obtain ⟨H', enc, b, sp, hd, n, x, h⟩ := h
  obtain ⟨s, h1, _, h2⟩ := DataW.trod_string ht h
  exact ⟨s, h1, h2⟩
theorem pieces_one : ∀ (n : Nat) (cs : List Value) (g : Nat → Value), cs.length = n → (∀ i, i < n → (cs.drop i).take 1 = [g i]) → cs = (List.range n).map g := by
  intro n cs g hl h
  apply List.ext_getElem?
  intro i
  rw [List.getElem?_map]
  by_cases hi : i < n
  · rw [List.getElem?_range hi]
    have h1 := congrArg (fun l => l[0]?) (h i hi)
    simp only [List.getElem?_take, List.getElem?_drop] at h1
    simpa using h1
  · rw [List.getElem?_eq_none (by omega), List.getElem?_eq_none (by simpa using hi)]; rfl
theorem Reads.ints {P : Program} {W : World} {t e : TypeId} {n : Nat} {k : IntKind} {cs : List Value} (ht : P.underlying t = some (.array n e)) (he : P.underlying e = some (.int k)) (h1 : P.cellsOf e = 1) (hn : P.cellsOf t = n) (h : Reads P W t cs) :
    ∃ d : Nat → Int, cs = (List.range n).map (fun i => .int k (d i)) ∧ ∀ i, i < n → k.min ≤ d i ∧ d i ≤ k.max := by
  obtain ⟨H', enc, b, sp, hd, fu, x, h⟩ := h
  obtain ⟨xs, m, rfl, rfl, hlen, hl, hel⟩ := DataW.trod_array ht h
  have key : ∀ i, ∃ z, i < n → (cs.drop i).take 1 = [.int k z] ∧ k.min ≤ z ∧ z ≤ k.max := fun i => by
    by_cases hi : i < n
    · have h2 := hel i hi
      rw [h1, Nat.mul_one, List.getElem?_eq_getElem (by omega)] at h2
      have h3 : Reads P W e ((cs.drop i).take 1) := ⟨H', enc, b, sp, hd, m, _, h2⟩
      obtain ⟨z, e1, e2⟩ := h3.int he
      exact ⟨z, fun _ => ⟨e1, e2⟩⟩
    · exact ⟨0, fun h => absurd h hi⟩
  refine ⟨fun i => (key i).choose, pieces_one n cs (fun i => .int k (key i).choose) (by rw [hlen, hn]) fun i hi => ((key i).choose_spec hi).1, fun i hi => ((key i).choose_spec hi).2⟩
def AllReads (P : Program) (W : World) : List TypeId → List (List Value) → Prop
  | [], [] => True
  | t :: ts, p :: ps => Reads P W t p ∧ AllReads P W ts ps
  | _, _ => False
def contigB (P : Program) (end_ : Nat) : List Field → Nat → Bool
  | [], a => Nat.beq a end_
  | f :: r, a => Nat.beq f.offset a && contigB P end_ r (a + P.cellsOf f.type)
theorem parts_of {P : Program} {W : World} {cs : List Value} {m : Nat} (hm : cs.length = m) : ∀ (l : List Field) (a : Nat), (∀ f ∈ l, Reads P W f.type ((cs.drop f.offset).take (P.cellsOf f.type))) → contigB P m l a = true →
    ∃ ps : List (List Value), cs.drop a = ps.flatten ∧ AllReads P W (l.map (·.type)) ps
  | [], a, _, hc => ⟨[], by
      have : a = m := Nat.eq_of_beq_eq_true hc
      rw [List.drop_eq_nil_of_le (by omega)]; rfl, trivial⟩
  | f :: r, a, h, hc => by
    simp only [contigB, Bool.and_eq_true] at hc
    have e : f.offset = a := Nat.eq_of_beq_eq_true hc.1
    obtain ⟨ps, e1, e2⟩ := parts_of hm r (a + P.cellsOf f.type) (fun x hx => h x (by simp [hx])) hc.2
    have h0 := h f (by simp)
    rw [e] at h0
    refine ⟨(cs.drop a).take (P.cellsOf f.type) :: ps, ?_, h0, e2⟩
    rw [List.flatten_cons, ← e1, ← List.drop_drop, List.take_append_drop]
theorem Reads.parts {P : Program} {W : World} {t : TypeId} {cs : List Value} {fs : List Field} (ht : P.underlying t = some (.struct fs.toArray)) (hc : contigB P (P.cellsOf t) fs 0 = true) (h : Reads P W t cs) :
    ∃ ps : List (List Value), cs = ps.flatten ∧ AllReads P W (fs.map (·.type)) ps := by
  obtain ⟨h1, h2⟩ := h.struct ht
  obtain ⟨ps, e1, e2⟩ := parts_of (P := P) (W := W) h1 fs 0 (fun f hf => by
    obtain ⟨i, hi⟩ := List.getElem?_of_mem hf
    exact h2 i f (by simpa using hi)) hc
  exact ⟨ps, by simpa using e1, e2⟩
/-! ### Messages, packets, steps -/
theorem u8_back {z : Int} (h : IntKind.min .u8 ≤ z ∧ z ≤ IntKind.max .u8) : (((UInt8.ofNat z.toNat).toNat : Nat) : Int) = z := by
  have h1 : (0 : Int) ≤ z := h.1
  have h2 : z ≤ 255 := h.2
  rw [UInt8.toNat_ofNat']
  omega
theorem reads_vecT {W : World} {cs : List Value} (h : Reads Tryz.prog W 37 cs) : ∃ d : Nat → Int, (∀ i, i < 11 → 0 ≤ d i ∧ d i ≤ 18446744073709551615) ∧ cs = v11 d := by
  obtain ⟨d, e, hd⟩ := h.ints Tryz.underlying37 Tryz.underlying35 (by kernel_rfl) (by kernel_rfl)
  exact ⟨d, fun i hi => hd i hi, e⟩
theorem reads_32 {W : World} {cs : List Value} (h : Reads Tryz.prog W 40 cs) : ∃ d : Nat → UInt8, cs = b32 d := by
  obtain ⟨d, e, hb⟩ := h.ints Tryz.underlying40 Tryz.underlying5 (by kernel_rfl) (by kernel_rfl)
  refine ⟨fun i => UInt8.ofNat (d i).toNat, ?_⟩
  have e2 : b32 (fun i => UInt8.ofNat (d i).toNat) = (List.range 32).map (fun i => Value.int .u8 ((UInt8.ofNat (d i).toNat).toNat : Nat)) := rfl
  rw [e, e2]
  refine List.map_congr_left fun i hi => ?_
  rw [List.mem_range] at hi
  rw [u8_back (hb i hi)]
theorem reads_pair {W : World} {cs : List Value} (h : Reads Tryz.prog W 61 cs) : ∃ x : Int × Int, True ∧ cs = pairV x := by
  obtain ⟨ps, rfl, hh⟩ := h.parts Tryz.underlying61 (by kernel_rfl)
  have h : AllReads Tryz.prog W [3, 35] ps := hh
  match ps, h with
  | [p0, p1], ⟨r0, r1, _⟩ =>
    obtain ⟨z0, rfl, _⟩ := r0.int Tryz.underlying3
    obtain ⟨z1, rfl, _⟩ := r1.int Tryz.underlying35
    exact ⟨(z0, z1), trivial, rfl⟩
theorem reads_op {W : World} {cs : List Value} (h : Reads Tryz.prog W 39 cs) : ∃ (k : UInt8) (a b c d : ByteArray) (n : Int), cs = [.int .u8 (k.toNat : Nat), .string a, .string b, .string c, .string d, .int .u64 n] ∧ 0 ≤ n ∧ n ≤ 18446744073709551615 := by
  obtain ⟨ps, rfl, hh⟩ := h.parts Tryz.underlying39 (by kernel_rfl)
  have h : AllReads Tryz.prog W [5, 9, 9, 9, 9, 35] ps := hh
  match ps, h with
  | [p0, p1, p2, p3, p4, p5], ⟨r0, r1, r2, r3, r4, r5, _⟩ =>
    obtain ⟨z0, rfl, hz⟩ := r0.int Tryz.underlying5
    obtain ⟨s1, rfl, _⟩ := r1.string Tryz.underlying9
    obtain ⟨s2, rfl, _⟩ := r2.string Tryz.underlying9
    obtain ⟨s3, rfl, _⟩ := r3.string Tryz.underlying9
    obtain ⟨s4, rfl, _⟩ := r4.string Tryz.underlying9
    obtain ⟨z5, rfl, h5⟩ := r5.int Tryz.underlying35
    refine ⟨UInt8.ofNat z0.toNat, s1, s2, s3, s4, z5, ?_, h5⟩
    rw [u8_back hz]
    rfl
theorem reads_req {W : World} {cs : List Value} (h : Reads Tryz.prog W 42 cs) : ∃ r : Req, r.Ok ∧ cs = r.vals := by
  obtain ⟨ps, rfl, hh⟩ := h.parts Tryz.underlying42 (by kernel_rfl)
  have h : AllReads Tryz.prog W [3, 35, 39, 40] ps := hh
  match ps, h with
  | [p0, p1, p2, p3], ⟨r0, r1, r2, r3, _⟩ =>
    obtain ⟨z0, rfl, _⟩ := r0.int Tryz.underlying3
    obtain ⟨z1, rfl, h1⟩ := r1.int Tryz.underlying35
    obtain ⟨k, a, b, c, d, n, rfl, hn⟩ := reads_op r2
    obtain ⟨t, rfl⟩ := reads_32 r3
    exact ⟨⟨z0, z1, k, a, b, c, d, n, t⟩, ⟨h1, hn⟩, rfl⟩
theorem reads_body {W : World} {cs : List Value} (h : Reads Tryz.prog W 45 cs) : ∃ (x : Bod) (q : Option Addr) (c : Nat), x.Ok ∧ QAt (memOf W) q x.q ∧ cs = x.vals q c := by
  obtain ⟨ps, rfl, hh⟩ := h.parts Tryz.underlying45 (by kernel_rfl)
  have h : AllReads Tryz.prog W [5, 35, 35, 42, 43, 40] ps := hh
  match ps, h with
  | [p0, p1, p2, p3, p4, p5], ⟨r0, r1, r2, r3, r4, r5, _⟩ =>
    obtain ⟨z0, rfl, hz⟩ := r0.int Tryz.underlying5
    obtain ⟨z1, rfl, h1⟩ := r1.int Tryz.underlying35
    obtain ⟨z2, rfl, h2⟩ := r2.int Tryz.underlying35
    obtain ⟨r, hr, rfl⟩ := reads_req r3
    obtain ⟨p, c, xs, rfl, _, _, _, hat⟩ := r4.list (sz := 2) Tryz.underlying43 (by kernel_rfl) (by decide) fun cs => reads_pair
    obtain ⟨t, rfl⟩ := reads_32 r5
    refine ⟨⟨UInt8.ofNat z0.toNat, z1, z2, r, xs, t⟩, p, c, ⟨h1, h2, hr⟩, hat, ?_⟩
    unfold Bod.vals
    rw [u8_back hz]
    rfl
def MV.Has (f : Frag) (x : MV) : Prop := QAt f x.qp x.m.body.q ∧ x.m.body.Ok
def Msg.Typ (m : Msg) : Prop := m.body.Ok ∧ ∀ i, i < 11 → 0 ≤ m.deps i
theorem reads_msgT {W : World} {cs : List Value} (h : Reads Tryz.prog W 47 cs) : ∃ x : MV, x.Has (memOf W) ∧ x.m.Typ ∧ cs = x.vals := by
  obtain ⟨ps, rfl, hh⟩ := h.parts Tryz.underlying47 (by kernel_rfl)
  have h : AllReads Tryz.prog W [3, 35, 37, 45, 40] ps := hh
  match ps, h with
  | [p0, p1, p2, p3, p4], ⟨r0, r1, r2, r3, r4, _⟩ =>
    obtain ⟨z0, rfl, _⟩ := r0.int Tryz.underlying3
    obtain ⟨z1, rfl, _⟩ := r1.int Tryz.underlying35
    obtain ⟨d, hd, rfl⟩ := reads_vecT r2
    obtain ⟨x, q, c, hx, hq, rfl⟩ := reads_body r3
    obtain ⟨t, rfl⟩ := reads_32 r4
    exact ⟨⟨⟨z0, z1, d, x, t⟩, q, c⟩, ⟨hq, hx⟩, ⟨hx, fun i hi => (hd i hi).1⟩, rfl⟩
theorem reads_msg {W : World} {cs : List Value} (h : Reads Tryz.prog W 47 cs) : ∃ x : MV, x.Has (memOf W) ∧ cs = x.vals := by
  obtain ⟨x, h1, _, h2⟩ := reads_msgT h
  exact ⟨x, h1, h2⟩
end Go.Proofs.YtoigpgdmignaoaaGreatDoor

/- Layer 8, plain: messages that nobody tells apart have the same bytes. No program in sight. -/
namespace Go.Proofs.YtoigpgdmignaoaaGreatDoor
open Go
/-! ### Cells that are told apart by eqC alone -/
def kdV : Value → Value
  | .int k _ => .int k 0
  | .string _ => .bool true
  | .bool _ => .bool false
  | v => v
theorem eqv_eq {a b : Value} (h : eqv a b = true) (hk : kdV a = kdV b) : a = b := by
  cases a with
  | bool x =>
    cases b <;> simp [eqv] at h
    subst h; rfl
  | int k x =>
    cases b with
    | int l y =>
      simp [eqv] at h
      simp [kdV] at hk
      subst h; subst hk; rfl
    | _ => simp [eqv] at h
  | string x =>
    cases b with
    | string y =>
      simp only [eqv] at h
      rw [beq_toListBytes, ByteArray.toList_eq, ByteArray.toList_eq, beq_iff_eq] at h
      rw [show x = y from ByteArray.ext (Array.ext' h)]
    | _ => simp [eqv] at h
  | _ => simp [eqv] at h
theorem eqC_eq : ∀ {a b : List Value}, eqC a b = true → a.map kdV = b.map kdV → a = b
  | [], [], _, _ => rfl
  | [], _ :: _, h, _ => by simp [eqC] at h
  | _ :: _, [], h, _ => by simp [eqC] at h
  | x :: xs, y :: ys, h, hk => by
    simp only [eqC, Bool.and_eq_true] at h
    simp only [List.map_cons, List.cons.injEq] at hk
    rw [eqv_eq h.1 hk.1, eqC_eq h.2 hk.2]
theorem u8_inj {a b : UInt8} (h : Value.int .u8 (a.toNat : Nat) = Value.int .u8 (b.toNat : Nat)) : a = b := by
  simp only [Value.int.injEq, true_and] at h
  exact UInt8.toNat_inj.1 (by omega)
theorem bytesV_inj : ∀ {a b : List UInt8}, bytesV a = bytesV b → a = b
  | [], [], _ => rfl
  | [], _ :: _, h => by simp [bytesV] at h
  | _ :: _, [], h => by simp [bytesV] at h
  | x :: xs, y :: ys, h => by
    simp only [bytesV, List.map_cons, List.cons.injEq] at h
    rw [u8_inj h.1, bytesV_inj h.2]
theorem b32_L {a b : Nat → UInt8} (h : b32 a = b32 b) : b32L a = b32L b := bytesV_inj (by rw [← b32_bytes, ← b32_bytes]; exact h)
theorem eq32_iff {a b : Nat → UInt8} : eqC (b32 a) (b32 b) = true ↔ b32 a = b32 b :=
  ⟨fun h => eqC_eq h rfl, fun h => by rw [h]; exact eq32_refl b⟩
theorem v11_iff {a b : Nat → Int} : v11 a = v11 b ↔ ∀ i, i < 11 → a i = b i := by
  constructor
  · intro h i hi
    have h1 := v11_get a hi
    have h2 := v11_get b hi
    rw [h, h2] at h1
    simp only [Option.some.injEq, Value.int.injEq, true_and] at h1
    exact h1.symm
  · intro h
    unfold v11
    rw [h 0 (by decide), h 1 (by decide), h 2 (by decide), h 3 (by decide), h 4 (by decide), h 5 (by decide), h 6 (by decide), h 7 (by decide), h 8 (by decide), h 9 (by decide), h 10 (by decide)]
theorem eqReq_iff {a b : Req} : eqC a.vals b.vals = true ↔ a.vals = b.vals :=
  ⟨fun h => eqC_eq h rfl, fun h => by rw [h]; exact eqC_refl rfl⟩
theorem Bod.E.refl (a : Bod) : Bod.E a a := ⟨rfl, rfl, rfl, rfl, rfl, rfl⟩
theorem Bod.E.symm {a b : Bod} (h : Bod.E a b) : Bod.E b a := ⟨h.1.symm, h.2.1.symm, h.2.2.1.symm, h.2.2.2.1.symm, h.2.2.2.2.1.symm, h.2.2.2.2.2.symm⟩
theorem Bod.E.trans {a b c : Bod} (h : Bod.E a b) (g : Bod.E b c) : Bod.E a c := ⟨h.1.trans g.1, h.2.1.trans g.2.1, h.2.2.1.trans g.2.2.1, h.2.2.2.1.trans g.2.2.2.1, h.2.2.2.2.1.trans g.2.2.2.2.1, h.2.2.2.2.2.trans g.2.2.2.2.2⟩
theorem Bod.eqB_iff {a b : Bod} : Bod.eqB a b = true ↔ Bod.E a b := by
  unfold Bod.eqB Bod.E
  rw [Bool.and_eq_true, Bool.and_eq_true, Bool.and_eq_true, Bool.and_eq_true, Bool.and_eq_true, decide_eq_true_eq, decide_eq_true_eq, decide_eq_true_eq, decide_eq_true_eq, eqReq_iff, eq32_iff]
  constructor
  · rintro ⟨⟨⟨⟨⟨h1, h2⟩, h3⟩, h4⟩, h5⟩, h6⟩
    exact ⟨UInt8.toNat_inj.1 (by omega), h2, h3, h4, h5, h6⟩
  · rintro ⟨h1, h2, h3, h4, h5, h6⟩
    exact ⟨⟨⟨⟨⟨by rw [h1], h2⟩, h3⟩, h4⟩, h5⟩, h6⟩
/-! ### What the same bodies, and messages, have in common -/
theorem Req.vals_inj {a b : Req} (h : a.vals = b.vals) : a.client = b.client ∧ a.time = b.time ∧ a.kind = b.kind ∧ a.key = b.key ∧ a.val = b.val ∧ a.old = b.old ∧ a.to = b.to ∧ a.amount = b.amount ∧ b32 a.tag = b32 b.tag := by
  unfold Req.vals at h
  have h1 := List.append_inj h rfl
  have h2 := h1.1
  simp only [List.cons.injEq, Value.int.injEq, Value.string.injEq, true_and, and_true] at h2
  obtain ⟨a1, a2, a3, a4, a5, a6, a7, a8⟩ := h2
  exact ⟨a1, a2, UInt8.toNat_inj.1 (by omega), a4, a5, a6, a7, a8, h1.2⟩
theorem Req.bytes_congr {a b : Req} (h : a.vals = b.vals) : a.bytes = b.bytes ∧ (a.asked ↔ b.asked) ∧ b32L a.tag = b32L b.tag := by
  obtain ⟨h1, h2, h3, h4, h5, h6, h7, h8, h9⟩ := Req.vals_inj h
  unfold Req.bytes Req.head Req.asked
  rw [h1, h2, h3, h4, h5, h6, h7, h8]
  exact ⟨rfl, Iff.rfl, b32_L h9⟩
theorem Bod.mayK_congr {a b : Bod} (h : Bod.E a b) (k : Nat) : a.mayK k = b.mayK k := by
  obtain ⟨h1, h2, h3, h4, h5, h6⟩ := h
  obtain ⟨_, r2, _⟩ := Req.bytes_congr h4
  unfold Bod.mayK
  rw [h2, h3, h5, decide_eq_decide.2 r2]
theorem Bod.own_congr {a b : Bod} (h : Bod.E a b) : Bod.E a.own b.own := by
  obtain ⟨h1, h2, h3, h4, h5, h6⟩ := h
  unfold Bod.own
  rw [h1]
  generalize b.kind.toNat = k
  match k with
  | 0 => exact ⟨h1, rfl, rfl, rfl, rfl, rfl⟩
  | 1 => exact ⟨h1, h2, rfl, h4, rfl, rfl⟩
  | 2 => exact ⟨h1, h2, h3, rfl, rfl, rfl⟩
  | 3 => exact ⟨h1, h2, rfl, rfl, rfl, rfl⟩
  | 4 => exact ⟨h1, h2, rfl, rfl, h5, rfl⟩
  | 5 => exact ⟨h1, h2, rfl, rfl, rfl, rfl⟩
  | 6 => exact ⟨h1, rfl, h3, rfl, rfl, h6⟩
  | k + 7 => exact ⟨h1, rfl, rfl, rfl, rfl, rfl⟩
theorem Bod.may_congr {a b : Bod} (h : Bod.E a b) : a.may = b.may := by
  have h0 := Bod.own_congr h
  unfold Bod.may
  rw [Bod.mayK_congr h, h.1, h.2.1, Bool.eq_iff_iff.2 (Bod.eqB_iff.trans (Iff.trans ⟨fun g => h0.symm.trans (g.trans h), fun g => h0.trans (g.trans h.symm)⟩ Bod.eqB_iff.symm))]
theorem maxTo_congr {a b : Nat → Int} : ∀ n, (∀ i, i ≤ n → a i = b i) → maxTo a n = maxTo b n
  | 0, h => h 0 (Nat.le_refl _)
  | n + 1, h => by
    unfold maxTo
    rw [maxTo_congr n fun i hi => h i (by omega), h (n + 1) (Nat.le_refl _)]
def Msg.E0 (a b : Msg) : Prop := a.origin = b.origin ∧ a.number = b.number ∧ v11 a.deps = v11 b.deps ∧ Bod.E a.body b.body
theorem Msg.may_congr {a b : Msg} (h : Msg.E0 a b) : a.may = b.may := by
  obtain ⟨h1, h2, h3, h4⟩ := h
  have h5 := v11_iff.1 h3
  unfold Msg.may
  rw [Bod.may_congr h4]
  have e : a.outer ↔ b.outer := by
    unfold Msg.outer
    rw [h1, h2, maxTo_congr 10 fun i hi => h5 i (by omega)]
    constructor
    · rintro ⟨a1, a2, a3, a4, a5, a6⟩
      exact ⟨a1, a2, a3, a4, by rw [← h5 _ (by omega)]; exact a5, a6⟩
    · rintro ⟨a1, a2, a3, a4, a5, a6⟩
      exact ⟨a1, a2, a3, a4, by rw [h5 _ (by omega)]; exact a5, a6⟩
  rw [decide_eq_decide.2 e]
end Go.Proofs.YtoigpgdmignaoaaGreatDoor

/- The engine, part q: a family of things that are owned, one for each number below a bound; one of them is taken out, and put back. No program in sight; no conditions. -/
namespace Go.Proofs.YtoigpgdmignaoaaGreatDoor
open Go
def rngH (g : Nat → HP) : Nat → List HP
  | 0 => []
  | k + 1 => g k :: rngH g k
def fam (g : Nat → HP) (k : Nat) : HP := fun h => stars (rngH g k) h
def updF {α : Type} (g : Nat → α) (i : Nat) (x : α) : Nat → α := fun j => if j = i then x else g j
theorem updF_same {α : Type} (g : Nat → α) (i : Nat) (x : α) : updF g i x i = x := if_pos rfl
theorem updF_ne {α : Type} (g : Nat → α) {i j : Nat} (x : α) (h : j ≠ i) : updF g i x j = g j := if_neg h
theorem updF_self {α : Type} (g : Nat → α) (i : Nat) : updF g i (g i) = g := by
  funext j; unfold updF; split
  · rename_i h; rw [h]
  · rfl
theorem updF_updF {α : Type} (g : Nat → α) (i : Nat) (x y : α) : updF (updF g i x) i y = updF g i y := by
  funext j; unfold updF; split <;> rfl
theorem rngH_congr {g g' : Nat → HP} : ∀ k, (∀ j, j < k → g j = g' j) → rngH g k = rngH g' k
  | 0, _ => rfl
  | k + 1, h => by unfold rngH; rw [h k (by omega), rngH_congr k fun j hj => h j (by omega)]
theorem fam_pull {g : Nat → HP} {i : Nat} : ∀ {k : Nat}, i < k → stars (rngH g k) = star (g i) (stars (rngH (updF g i emp) k))
  | 0, h => by omega
  | k + 1, h => by
    by_cases e : i = k
    · subst e
      have e1 : rngH (updF g i emp) i = rngH g i := rngH_congr i fun j hj => updF_ne g emp (by omega)
      show star (g i) (stars (rngH g i)) = star (g i) (star (updF g i emp i) (stars (rngH (updF g i emp) i)))
      rw [updF_same, emp_star, e1]
    · show star (g k) (stars (rngH g k)) = star (g i) (star (updF g i emp k) (stars (rngH (updF g i emp) k)))
      rw [fam_pull (g := g) (i := i) (k := k) (by omega), updF_ne g emp (fun h => e h.symm), star_left_comm]
theorem fam_put {g : Nat → HP} {i k : Nat} {x : HP} (h : i < k) : star x (stars (rngH (updF g i emp) k)) = stars (rngH (updF g i x) k) := by
  rw [fam_pull (g := updF g i x) h, updF_same, updF_updF]
theorem fam_pullA {g : Nat → HP} {i k : Nat} (A : List HP) (h : i < k) : stars (fam g k :: A) = stars (g i :: fam (updF g i emp) k :: A) := by
  show star (stars (rngH g k)) (stars A) = star (g i) (star (stars (rngH (updF g i emp) k)) (stars A))
  rw [fam_pull h, star_assoc]
theorem fam_putA {g : Nat → HP} {i k : Nat} {x : HP} (A : List HP) (h : i < k) : stars (x :: fam (updF g i emp) k :: A) = stars (fam (updF g i x) k :: A) := by
  show star x (star (stars (rngH (updF g i emp) k)) (stars A)) = star (stars (rngH (updF g i x) k)) (stars A)
  rw [← star_assoc, fam_put h]
section
variable {P : Program} {base : World} {n : Nat} {L : Env} {f : Frag} {A : List HP} {K : Kont} {g : Nat → HP} {i k : Nat}
theorem H.famPull (h : i < k) (kk : H P base n L f (g i :: fam (updF g i emp) k :: A) K) : H P base n L f (fam g k :: A) K :=
  H.conv (fam_pullA A h) kk
theorem H.famPut {x : HP} (h : i < k) (kk : H P base n L f (fam (updF g i x) k :: A) K) : H P base n L f (x :: fam (updF g i emp) k :: A) K :=
  H.conv (fam_putA A h) kk
theorem H.famBack (h : i < k) (kk : H P base n L f (fam g k :: A) K) : H P base n L f (g i :: fam (updF g i emp) k :: A) K :=
  H.famPut h (by rw [updF_self]; exact kk)
end
def c11 (g : Nat → Value) : List Value := [g 0, g 1, g 2, g 3, g 4, g 5, g 6, g 7, g 8, g 9, g 10]
theorem c11_get (g : Nat → Value) {i : Nat} (h : i < 11) : (c11 g)[i]? = some (g i) := by
  match i, h with
  | 0, _ => rfl
  | 1, _ => rfl
  | 2, _ => rfl
  | 3, _ => rfl
  | 4, _ => rfl
  | 5, _ => rfl
  | 6, _ => rfl
  | 7, _ => rfl
  | 8, _ => rfl
  | 9, _ => rfl
  | 10, _ => rfl
theorem c11_set (g : Nat → Value) {i : Nat} (v : Value) (h : i < 11) : SetV (c11 g) i v (c11 (updF g i v)) := by
  have e : c11 (updF g i v) = (c11 g).set i v := by
    match i, h with
    | 0, _ => rfl
    | 1, _ => rfl
    | 2, _ => rfl
    | 3, _ => rfl
    | 4, _ => rfl
    | 5, _ => rfl
    | 6, _ => rfl
    | 7, _ => rfl
    | 8, _ => rfl
    | 9, _ => rfl
    | 10, _ => rfl
  rw [e]
  exact SetV.mk v h
end Go.Proofs.YtoigpgdmignaoaaGreatDoor

/- Layer 12, plain: what a lore answers, by its streams; messages of a world are all taken. No program in sight. -/
namespace Go.Proofs.YtoigpgdmignaoaaGreatDoor
open Go
abbrev Strm := Nat → List Msg
def aboveB (a b : Nat → Int) : Bool := (List.range 11).any fun i => decide (b i < a i)
def knownS (S : Strm) : Nat → Int := fun i => ((S i).length : Nat)
def orgI (m : Msg) : Nat := (m.origin - 1).toNat
def fitsB (n : Nat) (m : Msg) : Bool := m.may && (decide (m.origin ≤ (n : Int)) && (m.body.q.all (fun p => decide (p.1 ≤ (n : Int))) && (List.range 11).all (fun i => decide (i < n) || decide (m.deps i ≤ 0))))
def lastD (l : List Msg) : Nat → Int := match l.getLast? with
  | some x => x.deps
  | none => fun _ => 0
def chk (n : Nat) (S : Strm) (m : Msg) : Int :=
  if fitsB n m = false then 1 else if m.right = false then 11 else
  if m.number ≤ ((S (orgI m)).length : Nat) then 13 else
  if m.number = (((S (orgI m)).length + 1 : Nat) : Int) ∧ 0 < (S (orgI m)).length ∧ aboveB (lastD (S (orgI m))) m.deps = true then 1 else
  if (((S (orgI m)).length + 1 : Nat) : Int) < m.number ∨ aboveB m.deps (knownS S) = true then 12 else 0
theorem aboveB_false {a b : Nat → Int} : aboveB a b = false ↔ ∀ i, i < 11 → a i ≤ b i := by
  unfold aboveB
  rw [List.any_eq_false]
  constructor
  · intro h i hi
    have := h i (List.mem_range.2 hi)
    simp only [decide_eq_true_eq] at this
    omega
  · intro h i hi
    have := h i (List.mem_range.1 hi)
    simp only [decide_eq_true_eq]
    omega
/-! ### The streams of a list of messages -/
def strm (l : List Msg) : Strm := fun i => l.filter fun m => decide (orgI m = i)
def cnt (l : List Msg) (i : Nat) : Nat := (strm l i).length
end Go.Proofs.YtoigpgdmignaoaaGreatDoor

/- Layer 12, plain: what is not known of a world, in the order in which it was made, is taken one by one. No program in sight. -/
namespace Go.Proofs.YtoigpgdmignaoaaGreatDoor
open Go
end Go.Proofs.YtoigpgdmignaoaaGreatDoor

/- Layer 12, plain: a part of a world is taken; what is lacking is brought part by part. No program in sight. -/
namespace Go.Proofs.YtoigpgdmignaoaaGreatDoor
open Go
end Go.Proofs.YtoigpgdmignaoaaGreatDoor

/- Layer 12, plain: the document's worlds: what replicas say is taken by any lore that knows what they knew. No program in sight. -/
namespace Go.Proofs.YtoigpgdmignaoaaGreatDoor
open Go
theorem Msg.signed_E0 (m : Msg) : Msg.E0 m.signed m := by
  unfold Msg.signed
  split
  · exact ⟨rfl, rfl, rfl, Bod.E.refl _⟩
  · exact ⟨rfl, rfl, rfl, Bod.E.refl _⟩
theorem Msg.signed_may (m : Msg) : m.signed.may = m.may := Msg.may_congr m.signed_E0
theorem Msg.signed_isright {m : Msg} (hm : m.may = true) : m.signed.right = true := by
  have h2 : ∀ u, ({ m with tag := u } : Msg).right = (m.may && eq32 u (Sha.numbered m.origin m.number m.tagged)) := fun _ => rfl
  unfold Msg.signed
  rw [if_pos hm, h2, hm, eq32_refl]
  rfl
theorem Msg.signed_parts (m : Msg) : m.signed.origin = m.origin ∧ m.signed.number = m.number ∧ m.signed.deps = m.deps ∧ m.signed.body = m.body := by
  unfold Msg.signed
  split
  · exact ⟨rfl, rfl, rfl, rfl⟩
  · exact ⟨rfl, rfl, rfl, rfl⟩
end Go.Proofs.YtoigpgdmignaoaaGreatDoor

/- Layer 12, plain: the document's lore answers as the program's. No program in sight. -/
namespace Go.Proofs.YtoigpgdmignaoaaGreatDoor
open Go
def LOK (n : Nat) (l : List Msg) : Prop := ∀ j m, l[j]? = some m → chk n (strm (l.take j)) m = 0
theorem chk_zero {n : Nat} {S : Strm} {m : Msg} (h : chk n S m = 0) : fitsB n m = true ∧ m.right = true ∧ m.number = (((S (orgI m)).length + 1 : Nat) : Int) ∧ (0 < (S (orgI m)).length → ∀ i, i < 11 → lastD (S (orgI m)) i ≤ m.deps i) ∧ (∀ i, i < 11 → m.deps i ≤ knownS S i) := by
  unfold chk at h
  by_cases h1 : fitsB n m = false
  · rw [if_pos h1] at h; exact absurd h (by decide)
  · rw [if_neg h1] at h
    by_cases h2 : m.right = false
    · rw [if_pos h2] at h; exact absurd h (by decide)
    · rw [if_neg h2] at h
      by_cases h3 : m.number ≤ ((S (orgI m)).length : Nat)
      · rw [if_pos h3] at h; exact absurd h (by decide)
      · rw [if_neg h3] at h
        by_cases h4 : m.number = (((S (orgI m)).length + 1 : Nat) : Int) ∧ 0 < (S (orgI m)).length ∧ aboveB (lastD (S (orgI m))) m.deps = true
        · rw [if_pos h4] at h; exact absurd h (by decide)
        · rw [if_neg h4] at h
          by_cases h5 : (((S (orgI m)).length + 1 : Nat) : Int) < m.number ∨ aboveB m.deps (knownS S) = true
          · rw [if_pos h5] at h; exact absurd h (by decide)
          · have e : m.number = (((S (orgI m)).length + 1 : Nat) : Int) := by omega
            refine ⟨by simpa using h1, by simpa using h2, e, fun hp => ?_, ?_⟩
            · refine aboveB_false.1 ?_
              cases ha : aboveB (lastD (S (orgI m))) m.deps with
              | false => rfl
              | true => exact absurd ⟨e, hp, ha⟩ h4
            · refine aboveB_false.1 ?_
              cases ha : aboveB m.deps (knownS S) with
              | false => rfl
              | true => exact absurd (.inr ha) h5
theorem fits_org {n : Nat} {m : Msg} (h : fitsB n m = true) : 1 ≤ m.origin ∧ m.origin ≤ (n : Int) ∧ m.may = true := by
  unfold fitsB at h
  simp only [Bool.and_eq_true, decide_eq_true_eq] at h
  exact ⟨(Msg.may_outer h.1).1, h.2.1, h.1⟩
theorem LOK.snoc {n : Nat} {l : List Msg} {m : Msg} (h : LOK n l) (hm : chk n (strm l) m = 0) : LOK n (l ++ [m]) := fun j x hj => by
  rcases Nat.lt_or_ge j l.length with hlt | hge
  · rw [List.getElem?_append_left hlt] at hj
    rw [List.take_append_of_le_length (by omega)]
    exact h j x hj
  · rw [List.getElem?_append_right hge] at hj
    have e : j = l.length := by
      rcases Nat.eq_or_lt_of_le hge with e | e
      · exact e.symm
      · rw [List.getElem?_eq_none (by simp; omega)] at hj; cases hj
    subst e
    rw [Nat.sub_self] at hj
    simp at hj
    subst hj
    rw [List.take_left]
    exact hm
theorem LOK.nil (n : Nat) : LOK n [] := fun j m h => by simp at h
theorem lastD_get {l : List Msg} {x : Msg} (h : l[l.length - 1]? = some x) : lastD l = x.deps := by
  unfold lastD
  rw [List.getLast?_eq_getElem?, h]
end Go.Proofs.YtoigpgdmignaoaaGreatDoor

/- Layer 12: what a lore owns. -/
namespace Go.Proofs.YtoigpgdmignaoaaGreatDoor
open Go
def strmV (l : List MV) : Nat → List MV := fun i => l.filter fun x => decide (orgI x.m = i)
theorem strmV_map (l : List MV) (i : Nat) : (strmV l i).map MV.m = strm (l.map MV.m) i := by
  unfold strmV strm
  rw [List.filter_map]
  rfl
theorem strmV_len (l : List MV) (i : Nat) : (strmV l i).length = cnt (l.map MV.m) i := by
  unfold cnt; rw [← strmV_map, List.length_map]
theorem strmV_snoc (l : List MV) (x : MV) (i : Nat) : strmV (l ++ [x]) i = if i = orgI x.m then strmV l i ++ [x] else strmV l i := by
  unfold strmV
  rw [List.filter_append]
  by_cases h : i = orgI x.m
  · rw [if_pos h]; simp [h]
  · rw [if_neg h]
    have : decide (orgI x.m = i) = false := decide_eq_false fun e => h e.symm
    simp [this]
def placesFrom : List Msg → List Msg → List (Nat × Nat)
  | _, [] => []
  | pre, m :: r => (orgI m, cnt pre (orgI m)) :: placesFrom (pre ++ [m]) r
def placesOf (l : List Msg) : List (Nat × Nat) := placesFrom [] l
theorem placesFrom_app : ∀ (a pre b : List Msg), placesFrom pre (a ++ b) = placesFrom pre a ++ placesFrom (pre ++ a) b
  | [], pre, b => by simp [placesFrom]
  | m :: a, pre, b => by
    rw [List.cons_append]
    show _ :: placesFrom (pre ++ [m]) (a ++ b) = (_ :: placesFrom (pre ++ [m]) a) ++ _
    rw [placesFrom_app a (pre ++ [m]) b, List.cons_append]
    simp
theorem placesOf_snoc (l : List Msg) (m : Msg) : placesOf (l ++ [m]) = placesOf l ++ [(orgI m, cnt l (orgI m))] := by
  unfold placesOf
  rw [placesFrom_app]
  rfl
theorem placesFrom_len : ∀ (l pre : List Msg), (placesFrom pre l).length = l.length
  | [], _ => rfl
  | m :: l, pre => by
    show (placesFrom (pre ++ [m]) l).length + 1 = _
    rw [placesFrom_len l]; rfl
def placeV (p : Nat × Nat) : List Value := [.int .i64 (p.1 : Int), .int .i64 (p.2 : Int)]
structure LP where
  P : Nat → Option Addr
  C : Nat → Nat
  po : Option Addr
  co : Nat
def loreCells (n : Nat) (l : List MV) (i : LP) : List Value := [.int .i64 (n : Int)] ++ c11 (fun k => .slice (i.P k) (strmV l k).length (i.C k)) ++ [.slice i.po l.length i.co]
def strH (l : List MV) (i : LP) (k : Nat) : HP := slc (i.P k) (strmV l k).length (i.C k) 47 121 ((strmV l k).flatMap MV.vals)
def ordH (l : List MV) (i : LP) : HP := slc i.po l.length i.co 123 2 ((placesOf (l.map MV.m)).flatMap placeV)
def loreφ (f : Frag) (n : Nat) (l : List MV) : Prop := (∀ x ∈ l, x.Good f) ∧ l.length ≤ 100000 ∧ LOK n (l.map MV.m) ∧ n ≤ 11
def loreH (f : Frag) (lb : Nat) (n : Nat) (l : List MV) : HP := pack (fun _ : LP => loreφ f n l) (fun i => [row lb 120 (loreCells n l i), fam (strH l i) 11, ordH l i])
theorem loreφ.mono {f g : Frag} (h : Le f g) {n : Nat} {l : List MV} (hl : loreφ f n l) : loreφ g n l := ⟨fun x hx => (hl.1 x hx).mono h, hl.2⟩
theorem loreH_mono {f g : Frag} (h : Le f g) {lb n : Nat} {l : List MV} : ∀ x, loreH f lb n l x → loreH g lb n l x := fun x ⟨i, hi, hx⟩ => ⟨i, hi.mono h, hx⟩
theorem H.loreOpen {P : Program} {base : World} {n0 : Nat} {L : Env} {f fl : Frag} {F : List HP} {K : Kont} {lb n : Nat} {l : List MV}
    (k : ∀ i : LP, loreφ fl n l → H P base n0 L f (row lb 120 (loreCells n l i) :: fam (strH l i) 11 :: ordH l i :: F) K) : H P base n0 L f (loreH fl lb n l :: F) K :=
  H.unpack fun i hi => k i hi
theorem lore_fold {fl : Frag} {F : List HP} {lb n : Nat} {l : List MV} (i : LP) (h : loreφ fl n l) : ∀ x, stars (row lb 120 (loreCells n l i) :: fam (strH l i) 11 :: ordH l i :: F) x → stars (loreH fl lb n l :: F) x := fun x hx =>
  pack_fold (ι := LP) (φ := fun _ : LP => loreφ fl n l) (B := fun i => [row lb 120 (loreCells n l i), fam (strH l i) 11, ordH l i]) i h x hx
theorem loreCells_str (n : Nat) (l : List MV) (i : LP) {k : Nat} (h : k < 11) : (loreCells n l i)[1 + k]? = some (.slice (i.P k) (strmV l k).length (i.C k)) := by
  unfold loreCells
  rw [List.append_assoc, List.getElem?_append_right (by show 1 ≤ 1 + k; omega), show 1 + k - [Value.int .i64 (n : Int)].length = k by show 1 + k - 1 = k; omega, List.getElem?_append_left (by show k < 11; exact h), c11_get _ h]
theorem rngH_nil {g : Nat → HP} : ∀ k, (∀ j, j < k → g j nil0) → stars (rngH g k) nil0
  | 0, _ => rfl
  | k + 1, h => ⟨nil0, nil0, Dj.nil _, (un_nil _).symm, h k (by omega), rngH_nil k fun j hj => h j (by omega)⟩
end Go.Proofs.YtoigpgdmignaoaaGreatDoor

/- Layer 13, plain: a heap of names. No program in sight; no conditions. -/
namespace Go.Proofs.YtoigpgdmignaoaaGreatDoor
open Go
abbrev Nm := Int × Int
def nmV (k : Nm) : List Value := [.int .i64 k.1, .int .u64 k.2]
theorem nmV_len (k : Nm) : (nmV k).length = 2 := rfl
def nmAt (l : List Nm) (k : Nat) : Nm := l.getD k (0, 0)
theorem nmAt_some {l : List Nm} {k : Nat} (h : k < l.length) : l[k]? = some (nmAt l k) := by
  unfold nmAt
  rw [List.getD_eq_getElem?_getD, List.getElem?_eq_getElem h]; rfl
theorem nmAt_of {l : List Nm} {k : Nat} {x : Nm} (h : l[k]? = some x) : nmAt l k = x := by
  unfold nmAt
  rw [List.getD_eq_getElem?_getD, h]; rfl
def swp (l : List Nm) (i j : Nat) : List Nm := (l.set i (nmAt l j)).set j (nmAt l i)
theorem swp_len (l : List Nm) (i j : Nat) : (swp l i j).length = l.length := by
  unfold swp
  rw [List.length_set, List.length_set]
theorem swp_at {l : List Nm} {i j : Nat} (hi : i < l.length) (hj : j < l.length) (k : Nat) : nmAt (swp l i j) k = if k = j then nmAt l i else if k = i then nmAt l j else nmAt l k := by
  unfold swp
  by_cases h1 : k = j
  · subst h1
    rw [if_pos rfl]
    refine nmAt_of ?_
    rw [List.getElem?_set_self (by rw [List.length_set]; exact hj)]
  · rw [if_neg h1]
    by_cases h2 : k = i
    · subst h2
      rw [if_pos rfl]
      refine nmAt_of ?_
      rw [List.getElem?_set_ne (fun e => h1 e.symm), List.getElem?_set_self hi]
    · rw [if_neg h2]
      show List.getD _ _ _ = List.getD _ _ _
      rw [List.getD_eq_getElem?_getD, List.getD_eq_getElem?_getD, List.getElem?_set_ne (fun e => h1 e.symm), List.getElem?_set_ne (fun e => h2 e.symm)]
theorem nm_mem {l : List Nm} {x : Nm} : x ∈ l ↔ ∃ k, k < l.length ∧ nmAt l k = x := by
  constructor
  · intro h
    obtain ⟨k, hk⟩ := List.getElem?_of_mem h
    exact ⟨k, (List.getElem?_eq_some_iff.1 hk).1, nmAt_of hk⟩
  · rintro ⟨k, hk, rfl⟩
    exact List.mem_of_getElem? (nmAt_some hk)
theorem swp_mem {l : List Nm} {i j : Nat} (hi : i < l.length) (hj : j < l.length) (x : Nm) : x ∈ swp l i j ↔ x ∈ l := by
  rw [nm_mem, nm_mem]
  constructor
  · rintro ⟨k, hk, hx⟩
    rw [swp_len] at hk
    rw [swp_at hi hj] at hx
    by_cases h1 : k = j
    · rw [if_pos h1] at hx; exact ⟨i, hi, hx⟩
    · rw [if_neg h1] at hx
      by_cases h2 : k = i
      · rw [if_pos h2] at hx; exact ⟨j, hj, hx⟩
      · rw [if_neg h2] at hx; exact ⟨k, hk, hx⟩
  · rintro ⟨k, hk, hx⟩
    by_cases h1 : k = j
    · refine ⟨i, by rw [swp_len]; exact hi, ?_⟩
      rw [swp_at hi hj]
      by_cases h2 : i = j
      · rw [if_pos h2, h2, ← h1]; exact hx
      · rw [if_neg h2, if_pos rfl, ← h1]; exact hx
    · by_cases h2 : k = i
      · refine ⟨j, by rw [swp_len]; exact hj, ?_⟩
        rw [swp_at hi hj, if_pos rfl, ← h2]; exact hx
      · refine ⟨k, by rw [swp_len]; exact hk, ?_⟩
        rw [swp_at hi hj, if_neg h1, if_neg h2]; exact hx
def Heap (l : List Nm) : Prop := ∀ k, 0 < k → k < l.length → (nmAt l ((k - 1) / 2)).1 ≤ (nmAt l k).1
def HeapBut (l : List Nm) (j : Nat) : Prop := (∀ k, 0 < k → k < l.length → k ≠ j → (nmAt l ((k - 1) / 2)).1 ≤ (nmAt l k).1) ∧ (∀ k, 0 < k → k < l.length → (k - 1) / 2 = j → 0 < j → (nmAt l ((j - 1) / 2)).1 ≤ (nmAt l k).1)
theorem Heap.nil : Heap [] := fun k _ h => by simp at h
theorem Heap.root {l : List Nm} (h : Heap l) : ∀ k, k < l.length → (nmAt l 0).1 ≤ (nmAt l k).1 := fun k => by
  induction k using Nat.strongRecOn with
  | ind k ih =>
    intro hk
    by_cases h0 : k = 0
    · subst h0; exact Int.le_refl _
    · exact Int.le_trans (ih ((k - 1) / 2) (by omega) (by omega)) (h k (by omega) hk)
theorem Heap.least {l : List Nm} (h : Heap l) {x : Nm} (hx : x ∈ l) : (nmAt l 0).1 ≤ x.1 := by
  obtain ⟨k, hk, rfl⟩ := nm_mem.1 hx
  exact h.root k hk
theorem Heap.push {l : List Nm} (h : Heap l) (x : Nm) : HeapBut (l ++ [x]) l.length := by
  have hat : ∀ k, k < l.length → nmAt (l ++ [x]) k = nmAt l k := fun k hk => nmAt_of (by rw [List.getElem?_append_left hk]; exact nmAt_some hk)
  refine ⟨fun k h0 hk hne => ?_, fun k h0 hk hp h1 => ?_⟩
  · rw [List.length_append] at hk
    have hk' : k < l.length := by simp at hk; omega
    rw [hat k hk', hat _ (by omega)]
    exact h k h0 hk'
  · rw [List.length_append] at hk
    simp at hk
    omega
theorem HeapBut.zero {l : List Nm} (h : HeapBut l 0) : Heap l := fun k h0 hk => h.1 k h0 hk (by omega)
theorem HeapBut.fine {l : List Nm} {j : Nat} (h : HeapBut l j) (hj : (nmAt l ((j - 1) / 2)).1 ≤ (nmAt l j).1) : Heap l := fun k h0 hk => by
  by_cases e : k = j
  · subst e; exact hj
  · exact h.1 k h0 hk e
theorem HeapBut.step {l : List Nm} {j : Nat} (h : HeapBut l j) (h0 : 0 < j) (hj : j < l.length) (hlt : (nmAt l j).1 < (nmAt l ((j - 1) / 2)).1) : HeapBut (swp l ((j - 1) / 2) j) ((j - 1) / 2) := by
  obtain ⟨i, hi⟩ : ∃ i, i = (j - 1) / 2 := ⟨_, rfl⟩
  rw [← hi] at hlt ⊢
  have hij : i < j := by omega
  have hil : i < l.length := by omega
  have hat := swp_at hil hj
  refine ⟨fun k k0 hk hne => ?_, fun k k0 hk hp hi0 => ?_⟩
  · rw [swp_len] at hk
    rw [hat k, hat ((k - 1) / 2), if_neg hne]
    by_cases e : k = j
    · subst e
      rw [if_pos rfl, ← hi, if_neg (by omega), if_pos rfl]
      omega
    · rw [if_neg e]
      by_cases e1 : (k - 1) / 2 = j
      · rw [if_pos e1]
        have := h.2 k k0 hk e1 h0
        rw [← hi] at this
        exact this
      · rw [if_neg e1]
        by_cases e2 : (k - 1) / 2 = i
        · rw [if_pos e2]
          have := h.1 k k0 hk e
          rw [e2] at this
          omega
        · rw [if_neg e2]
          exact h.1 k k0 hk e
  · rw [swp_len] at hk
    have hpi : (i - 1) / 2 < i := by omega
    rw [hat k, hat ((i - 1) / 2), if_neg (by omega), if_neg (by omega)]
    have hii := h.1 i hi0 hil (by omega)
    by_cases e : k = j
    · rw [if_pos e]; exact hii
    · rw [if_neg e, if_neg (by omega)]
      have := h.1 k k0 hk e
      rw [hp] at this
      omega
end Go.Proofs.YtoigpgdmignaoaaGreatDoor

/- The engine, part t: values of interface types: made, asserted; their methods called. No program in sight; no conditions. -/
namespace Go.Proofs.YtoigpgdmignaoaaGreatDoor
open Go
theorem run_tinfo {P : Program} {t : TypeId} {i : TypeInfo} (h : P.info? t = some i) (w : World) : (typeInfo t).run P w = .ok i w := by
  unfold typeInfo
  simp only [Sem.run_bind, run_program, Result.andThen_ok, h, Sem.run_pure]
def notI : TypeDesc → Bool
  | .interface _ => false
  | _ => true
def metB (P : Program) (t : TypeId) (name : String) (f : FuncId) (b : Bool) : Bool := match P.info? t with
  | some i => match i.methods.find? (·.name == name) with
    | some m => m.path.isEmpty && (match m.func with | some (g, c) => Nat.beq g f && (c == b) | none => false)
    | none => false
  | none => false
theorem metB_spec {P : Program} {t : TypeId} {name : String} {f : FuncId} {b : Bool} (h : metB P t name f b = true) : ∃ i m, P.info? t = some i ∧ i.methods.find? (·.name == name) = some m ∧ m.path = #[] ∧ m.func = some (f, b) := by
  unfold metB at h
  cases h1 : P.info? t with
  | none => rw [h1] at h; cases h
  | some i =>
    rw [h1] at h
    simp only at h
    cases h2 : i.methods.find? (·.name == name) with
    | none => rw [h2] at h; cases h
    | some m =>
      rw [h2] at h
      simp only [Bool.and_eq_true] at h
      obtain ⟨h3, h4⟩ := h
      refine ⟨i, m, rfl, h2, ?_, ?_⟩
      · simpa using h3
      · cases h5 : m.func with
        | none => rw [h5] at h4; cases h4
        | some p =>
          obtain ⟨g, c⟩ := p
          rw [h5] at h4
          simp only [Bool.and_eq_true, beq_iff_eq] at h4
          rw [Nat.eq_of_beq_eq_true h4.1, h4.2]
section rules
variable {P : Program} {base : World} {n : Nat} {L : Env} {f : Frag} {A : List HP} {q : Post}
variable {l rest : List Oper} {d : Nat} {ty : TypeId} {pos : String} {af : Array Edge} {gd : Option (Nat × Bool)}
theorem H.makeI {t : TypeId} {x : Operand} {v : Value} {dt : TypeDesc} [hu : Und P t dt] (hn : notI dt = true) (hw : want? l L gd = true) (hx : ev? L x = some v) (hd : Nat.ble (d + 1) n = true)
    (k : H P base n ((d, .iface t v) :: L) f A (.ops l rest q)) : H P base n L f A (.ops l (⟨some d, .makeInterface t x, ty, pos, af, gd⟩ :: rest) q) :=
  H.opV hw hd (fun a w hf _ => by
    have h1 := hu.run w
    cases dt <;> simp [notI] at hn <;> simp [execOp, Instr.makeInterface, hf.eval hx, h1]) k
theorem H.assertI {t xt : TypeId} {x : Operand} {v : Value} {dt : TypeDesc} [hu : Und P t dt] (hn : notI dt = true) (hw : want? l L gd = true) (hx : ev? L x = some (.iface t v)) (hd : Nat.ble (d + 1) n = true)
    (k : H P base n ((d, v) :: L) f A (.ops l rest q)) : H P base n L f A (.ops l (⟨some d, .typeAssert x xt t false, ty, pos, af, gd⟩ :: rest) q) :=
  H.opV hw hd (fun a w hf _ => by
    have h1 := hu.run w
    cases dt <;> simp [notI] at hn <;> simp [execOp, Instr.typeAssert, hf.eval hx, h1]) k
theorem HQ.assertI {V : List HP} {t xt : TypeId} {x : Operand} {v : Value} {dt : TypeDesc} [hu : Und P t dt] (hn : notI dt = true) (hw : want? l L gd = true) (hx : ev? L x = some (.iface t v)) (hd : Nat.ble (d + 1) n = true) {lst : Lst} {ti : Nat} {tt : List (Nat × Bool)}
    (k : HQ V ⟨lst.setIfInBounds ti true, tt⟩ P base n ((d, v) :: L) f A (.ops l rest q)) : HQ V ⟨lst, (ti, false) :: tt⟩ P base n L f A (.ops l (⟨some d, .typeAssert x xt t false, ty, pos, af, gd⟩ :: rest) q) :=
  HQ.opV hw hd (fun a w hf _ => by
    have h1 := hu.run w
    cases dt <;> simp [notI] at hn <;> simp [execOp, Instr.typeAssert, hf.eval hx, h1]) k
end rules
theorem run_method_p {P : Program} {t e : TypeId} [hu : Und P t (.pointer e)] {name : String} {f : FuncId} (h : metB P t name f true = true) (k : Nat) (v : Value) (w : World) : (method (k + 1) t v name).run P w = .ok (f, v) w := by
  obtain ⟨i, m, h1, h2, h3, h4⟩ := metB_spec h
  unfold method
  have h5 := run_tinfo h1 w
  have h6 := hu.run w
  simp only [Sem.run_bind, h5, Result.andThen_ok, h2, h3, h4]
  simp [follow, receiverAt, Place.get, h6]
theorem wrap_some (t : TypeId) (a : Addr) (name : String) : Builtin.ssaWrapNilChk_ #[t] t #[.pointer (some a), strVal "", strVal name] = pure (.pointer (some a)) := rfl
theorem run_method_l {P : Program} {t e : TypeId} [hu : Und P t (.pointer e)] {dt : TypeDesc} [he : Und P e dt] {name : String} {f : FuncId} (h : metB P t name f false = true) (ha : aggD dt = false) (k : Nat) {b off : Nat} {v : Value} {w : World} (hv : w.cell? ⟨b, off, none⟩ = some v) : (method (k + 1) t (.pointer (some ⟨b, off, none⟩)) name).run P w = .ok (f, v) w := by
  obtain ⟨i, m, h1, h2, h3, h4⟩ := metB_spec h
  unfold method
  have h5 := run_tinfo h1 w
  have h6 := hu.run w
  have h7 := run_loadAt1 (P := P) he ha hv
  unfold Instr.loadAt Instr.sureAddr at h7
  simp only [Sem.run_bind, h5, Result.andThen_ok, h2, h3, h4]
  simp only [Array.toList_empty, follow, Sem.run_bind, Sem.run_pure, Result.andThen_ok, receiverAt, h6, Place.get, Array.isEmpty_empty, if_true, wrap_some, asAddr]
  have h8 : (loadVar e ⟨b, off, none⟩).run P w = .ok v w := by
    simpa only [Sem.run_bind, Sem.run_pure, Result.andThen_ok] using h7
  simp only [h8, Result.andThen_ok]
theorem run_enterM {P : Program} {fid : FuncId} [hfun : Fun P fid] (a : Act) {dd : Option Tmp} {x : Operand} {t : TypeId} {v rv : Value} {name : String} {xs : List Operand} {vs : List Value} {ats : Array TypeId} {ty : TypeId} {pos : String} {af : Array Edge} {gd : Option (Nat × Bool)} {w : World} (hx : a.eval x = .iface t v) (hargs : xs.map a.eval = vs)
    (hm : ∀ k, (method (k + 1) t v name).run P w = .ok (fid, rv) w) :
    (execOp a.eval ⟨dd, .call ⟨.invoke x name, xs.toArray, ats⟩, ty, pos, af, gd⟩).run P w = .ok (.enter fid (rv :: vs).toArray) w := by
  obtain ⟨fn, h1, h2, h3⟩ := hfun.eq
  have e1 : (#[a.eval x] ++ Array.map a.eval xs.toArray : Array Value) = (.iface t v :: vs).toArray := by simp [hargs, hx]
  have e3 : ((.iface t v :: vs).toArray : Array Value).extract 1 (Value.iface t v :: vs).toArray.size = vs.toArray := by simp
  have hm' := hm (P.types.size + (Made.depth - 1))
  have e4 : P.types.size + (Made.depth - 1) + 1 = P.types.size + Made.depth := rfl
  rw [e4] at hm'
  have e2 : (execOp a.eval ⟨dd, .call ⟨.invoke x name, xs.toArray, ats⟩, ty, pos, af, gd⟩).run P w = Sem.run P (callFunc fid (#[rv] ++ vs.toArray)) w := by
    simp only [execOp, resolve, Sem.run_bind, Sem.run_pure, Result.andThen_ok, e1, invoke]
    simp only [List.getElem?_toArray, List.getElem?_cons_zero, e3, callMethod, Sem.run_bind, run_program, Result.andThen_ok, hm']
  rw [e2]
  unfold callFunc
  simp only [Sem.run_bind, run_program, Result.andThen_ok, h1, h2, h3, Bool.false_eq_true, if_false, Sem.run_pure]
  simp
section
variable {P : Program} {base : World} {n : Nat} {L : Env} {f f' : Frag} {A A' : List HP} {q : Post}
variable {l rest : List Oper} {d : Nat} {ty : TypeId} {pos : String} {af : Array Edge} {gd : Option (Nat × Bool)}
theorem H.invP {fid : FuncId} {x : Operand} {t e : TypeId} [hu : Und P t (.pointer e)] {rv : Value} {name : String} {xs : List Operand} {vs : List Value} {ats : Array TypeId} {R : Value → Frag → List HP → Prop} (fid' : FuncId) (hm : metB P t name fid' true = true) (hff : fid' = fid) [hfun : Fun P fid] (hx : ev? L x = some (.iface t rv)) (hw : want? l L gd = true) (hd : Nat.ble (d + 1) n = true)
    (hxs : evs? L xs = some vs) (hc : Fn P fid (rv :: vs) f A R)
    (k : ∀ v f' A', R v f' A' → H P base n ((d, v) :: L) f' A' (.ops l rest q)) :
    H P base n L f A (.ops l (⟨some d, .call ⟨.invoke x name, xs.toArray, ats⟩, ty, pos, af, gd⟩ :: rest) q) := .mk fun a w hf s => by
  subst hff
  show wpList P l.toArray (q.den P) _ a w
  unfold wpList
  rw [if_pos (hf.want (o := ⟨some d, _, ty, pos, af, gd⟩) hw)]
  refine .inl ?_
  have hrun := run_enterM (P := P) (dd := some d) (ats := ats) (ty := ty) (pos := pos) (af := af) (gd := gd) (w := w) a (fid := fid') (name := name) (rv := rv) (hf.eval hx) (hf.evals hxs) (fun k => run_method_p hm k rv w)
  simp only [Oper.wp, hrun, Oper.upon]
  refine (hc base w s).mono ?_
  rintro e w' ⟨v, f', A', rfl, hr, s'⟩
  exact (k v f' A' hr).out _ _ (hf.put (Nat.le_of_ble_eq_true hd) v) s'
theorem H.invL {fid : FuncId} {x : Operand} {t e : TypeId} [hu : Und P t (.pointer e)] {dt : TypeDesc} [he : Und P e dt] {b off : Nat} {rv : Value} {name : String} {xs : List Operand} {vs : List Value} {ats : Array TypeId} {R : Value → Frag → List HP → Prop} (fid' : FuncId) (hm : metB P t name fid' false = true) (hff : fid' = fid) [hfun : Fun P fid] (hx : ev? L x = some (.iface t (.pointer (some ⟨b, off, none⟩)))) (hw : want? l L gd = true) (hd : Nat.ble (d + 1) n = true)
    (hxs : evs? L xs = some vs) (ha : aggD dt = false) (hr : Rd1 f A b off rv) (hc : Fn P fid (rv :: vs) f A R)
    (k : ∀ v f' A', R v f' A' → H P base n ((d, v) :: L) f' A' (.ops l rest q)) :
    H P base n L f A (.ops l (⟨some d, .call ⟨.invoke x name, xs.toArray, ats⟩, ty, pos, af, gd⟩ :: rest) q) := .mk fun a w hf s => by
  subst hff
  show wpList P l.toArray (q.den P) _ a w
  unfold wpList
  rw [if_pos (hf.want (o := ⟨some d, _, ty, pos, af, gd⟩) hw)]
  refine .inl ?_
  have hrun := run_enterM (P := P) (dd := some d) (ats := ats) (ty := ty) (pos := pos) (af := af) (gd := gd) (w := w) a (fid := fid') (name := name) (rv := rv) (hf.eval hx) (hf.evals hxs) (fun k => run_method_l hm ha k (hr base w s))
  simp only [Oper.wp, hrun, Oper.upon]
  refine (hc base w s).mono ?_
  rintro e w' ⟨v, f', A', rfl, hr, s'⟩
  exact (k v f' A' hr).out _ _ (hf.put (Nat.le_of_ble_eq_true hd) v) s'
theorem H.invLR {fid : FuncId} {x : Operand} {t e : TypeId} [hu : Und P t (.pointer e)] {dt : TypeDesc} [he : Und P e dt] {b off : Nat} {rv v : Value} {name : String} {xs : List Operand} {vs : List Value} {ats : Array TypeId} (hm : metB P t name fid false = true) [hfun : Fun P fid] (hx : ev? L x = some (.iface t (.pointer (some ⟨b, off, none⟩)))) (hw : want? l L gd = true) (hd : Nat.ble (d + 1) n = true)
    (hxs : evs? L xs = some vs) (ha : aggD dt = false) (hr : Rd1 f A b off rv) (hc : Fn P fid (rv :: vs) f A (Ret v f' A'))
    (k : H P base n ((d, v) :: L) f' A' (.ops l rest q)) :
    H P base n L f A (.ops l (⟨some d, .call ⟨.invoke x name, xs.toArray, ats⟩, ty, pos, af, gd⟩ :: rest) q) :=
  H.invL fid hm rfl hx hw hd hxs ha hr hc fun _ _ _ h => by obtain ⟨rfl, rfl, rfl⟩ := h; exact k
theorem H.invPR {fid : FuncId} {x : Operand} {t e : TypeId} [hu : Und P t (.pointer e)] {rv v : Value} {name : String} {xs : List Operand} {vs : List Value} {ats : Array TypeId} (hm : metB P t name fid true = true) [hfun : Fun P fid] (hx : ev? L x = some (.iface t rv)) (hw : want? l L gd = true) (hd : Nat.ble (d + 1) n = true)
    (hxs : evs? L xs = some vs) (hc : Fn P fid (rv :: vs) f A (Ret v f' A'))
    (k : H P base n ((d, v) :: L) f' A' (.ops l rest q)) :
    H P base n L f A (.ops l (⟨some d, .call ⟨.invoke x name, xs.toArray, ats⟩, ty, pos, af, gd⟩ :: rest) q) :=
  H.invP fid hm rfl hx hw hd hxs hc fun _ _ _ h => by obtain ⟨rfl, rfl, rfl⟩ := h; exact k
end
end Go.Proofs.YtoigpgdmignaoaaGreatDoor

/- The engine, part o: a whole element of an owned slice is turned. No program in sight; no conditions. -/
namespace Go.Proofs.YtoigpgdmignaoaaGreatDoor
open Go
theorem flat_splice {α : Type} {vals : α → List Value} {sz : Nat} (hv : ∀ x, (vals x).length = sz) {xs : List α} {i : Nat} (z : α) (hi : i < xs.length) (sp : List Value) :
    splice (xs.flatMap vals ++ sp) (i * sz) (vals z) = (xs.set i z).flatMap vals ++ sp := by
  have hx : xs[i]? = some xs[i] := List.getElem?_eq_getElem hi
  have hl : ((xs.take i).flatMap vals).length = i * sz := by rw [flat_len hv, List.length_take, Nat.min_eq_left (by omega)]
  have h2 : (xs.set i z)[i]? = some z := by rw [List.getElem?_set_self hi]
  have e1 : (xs.set i z).take i = xs.take i := by rw [List.take_set_of_le (Nat.le_refl _)]
  have e2 : (xs.set i z).drop (i + 1) = xs.drop (i + 1) := by rw [List.drop_set_of_lt (by omega)]
  rw [flat_split xs hx, flat_split (xs.set i z) h2, e1, e2]
  generalize (xs.take i).flatMap vals = pre at hl
  unfold splice
  have e3 : pre ++ vals xs[i] ++ (xs.drop (i + 1)).flatMap vals ++ sp = pre ++ (vals xs[i] ++ ((xs.drop (i + 1)).flatMap vals ++ sp)) := by simp
  rw [e3, ← hl, List.take_left, hv z, ← hv xs[i], ← List.drop_drop, List.drop_left, List.drop_left]
  simp
section
variable {P : Program} {base : World} {n : Nat} {L : Env} {f : Frag} {A : List HP} {q : Post} {l rest : List Oper} {ty : TypeId} {pos : String} {af : Array Edge} {gd : Option (Nat × Bool)}
theorem H.storeE {α : Type} {vals : α → List Value} {sz : Nat} {t : TypeId} {x y : Operand} {b n0 c : Nat} {T : TypeId} {xs : List α} {i : Nat} {z : α} {A' : List HP} [hs : Siz P t sz] (hv : ∀ x, (vals x).length = sz) (h0 : 0 < sz) (hone : ∀ v ∈ vals z, one v = true) (hw : want? l L gd = true)
    (hx : ev? L x = some (.pointer (some ⟨b, i * sz, none⟩))) (hy : ev? L y = some (.agg (vals z).toArray)) (hi : i < xs.length)
    (hA : At A (slc (some ⟨b, 0, none⟩) n0 c T sz (xs.flatMap vals)) A' (slc (some ⟨b, 0, none⟩) n0 c T sz ((xs.set i z).flatMap vals)))
    (k : H P base n L f A' (.ops l rest q)) : H P base n L f A (.ops l (⟨none, .store t x y, ty, pos, af, gd⟩ :: rest) q) :=
  H.opS hw (fun a w hfr s => by
    obtain ⟨hl, hc, h3⟩ := s.slc_at hA
    have hn : xs.length = n0 := by
      rw [flat_len hv] at hl
      exact Nat.eq_of_mul_eq_mul_right h0 hl
    rcases h3 with ⟨e, _⟩ | ⟨b', sp, e, hnc, hcs, hb⟩
    · omega
    · cases e
      have hle : i * sz + (vals z).length ≤ (xs.flatMap vals ++ sp).length := by
        rw [List.length_append, flat_len hv, hv]
        have : (i + 1) * sz ≤ xs.length * sz := Nat.mul_le_mul_right _ hi
        rw [Nat.add_mul] at this
        omega
      have h1 := run_storeCells (P := P) (off := i * sz) (vals z) (xs.flatMap vals ++ sp) 0 w hb hone hle
      have hne : vals z ≠ [] := by intro h; have := hv z; rw [h] at this; simp at this; omega
      rw [if_neg hne, Nat.add_zero, flat_splice hv z hi] at h1
      refine ⟨World.putRow' w b T ((xs.set i z).flatMap vals ++ sp), ?_, s.turnRow hA (b := b) (o' := .cells ((xs.set i z).flatMap vals ++ sp).toArray T (0, 0)) ?_ rfl rfl rfl ?_ ?_⟩
      · simp only [execOp, hfr.eval hx, hfr.eval hy, Instr.storeAt, Instr.sureAddr, storeVar, Value.cells, Sem.run_bind, Sem.run_pure, Result.andThen_ok, hs.run, List.size_toArray, hv]
        simp [h1]
      · rintro m1 ⟨_, _, h⟩
        rcases h with ⟨h, _⟩ | ⟨b', sp', h, _, hcs', rfl⟩
        · omega
        · cases h; exact ⟨_, rfl⟩
      · rfl
      · have e4 : ((xs.set i z).flatMap vals).length = (xs.flatMap vals).length := by rw [flat_len hv, flat_len hv, List.length_set]
        refine ⟨by rw [e4]; exact hl, hc, .inr ⟨b, sp, rfl, hnc, ?_, rfl⟩⟩
        rw [List.length_append, e4, ← List.length_append]
        exact hcs) k
end
end Go.Proofs.YtoigpgdmignaoaaGreatDoor

/- Layer 13: the heap of names as the program has it. No conditions. -/
namespace Go.Proofs.YtoigpgdmignaoaaGreatDoor
open Go
theorem met_len : metB Tryz.prog 132 "Len" 67 false = true := by kernel_rfl
theorem met_less : metB Tryz.prog 132 "Less" 206 false = true := by kernel_rfl
theorem met_swap : metB Tryz.prog 132 "Swap" 209 false = true := by kernel_rfl
theorem met_push : metB Tryz.prog 132 "Push" 208 true = true := by kernel_rfl
theorem met_pop : metB Tryz.prog 132 "Pop" 207 true = true := by kernel_rfl
theorem nmV_one (k : Nm) : ∀ v ∈ nmV k, one v = true := allOne_mem rfl
section
variable (f : Frag) (F : List HP)
theorem nlen_fn {p : Option Addr} {m c : Nat} : Fn Tryz.prog 67 [.slice p m c] f F (Ret (.int .i64 (m : Int)) f F) := by
  refine Fn.enter Tryz.func67 rfl Tryz.ntmps67 rfl (L := [(0, _)]) ⟨rfl, trivial⟩ fun base => ?_
  repeat (first | ((first | apply H.move | apply H.assign | apply H.len_slice); (iterate 3 exact rfl)) | (first | apply H.seq | apply H.region | apply H.nil | apply H.then_normal) | (apply H.ret))
  exact H.ret1 rfl rfl (fun _ h => h) ⟨rfl, rfl, rfl⟩
theorem nless_fn {p : Option Addr} {n c i j : Nat} {l : List Nm} (hn : l.length = n) (hi : i < n) (hj : j < n) : Fn Tryz.prog 206 [.slice p n c, .int .i64 (i : Int), .int .i64 (j : Int)] f (slc p n c 136 2 (l.flatMap nmV) :: F)
    (Ret (.bool (decide ((nmAt l i).1 < (nmAt l j).1))) f (slc p n c 136 2 (l.flatMap nmV) :: F)) := by
  refine Fn.enter Tryz.func206 rfl Tryz.ntmps206 rfl (L := [(0, _), (1, _), (2, _)]) ⟨rfl, rfl, rfl, trivial⟩ fun base => ?_
  refine H.slc_some (.here _ _ _) (by omega) fun sb hsb => ?_
  subst hsb
  have r1 : Rd f (slc (some ⟨sb, 0, none⟩) n c 136 2 (l.flatMap nmV) :: F) sb (i * 2) (nmV (nmAt l i)) := Rd.slcElem nmV_len (by decide) (.here _ _ _) (nmAt_some (by omega))
  have r2 : Rd f (slc (some ⟨sb, 0, none⟩) n c 136 2 (l.flatMap nmV) :: F) sb (j * 2) (nmV (nmAt l j)) := Rd.slcElem nmV_len (by decide) (.here _ _ _) (nmAt_some (by omega))
  repeat (first | ((apply H.assign); (iterate 3 exact rfl)) | (first | apply H.seq | apply H.region | apply H.nil | apply H.then_normal))
  refine H.drawQ (by kernel_rfl) (by decide +kernel) (by repeat (first | exact blind_fn | refine blind_seq ?_ | refine blind_block ?_ | refine blind_loop ?_)) ?_
  repeat (((apply HQ.move); (iterate 3 exact rfl)))
  refine HQ.index0 (i := i) rfl rfl rfl rfl hi rfl ?_
  repeat ((apply HQ.fieldAddr; (iterate 3 exact rfl); exact inferInstance; exact rfl))
  refine HQ.load1 rfl rfl rfl (Rd1.of r1 rfl) rfl ?_
  repeat (((apply HQ.move); (iterate 3 exact rfl)))
  refine HQ.index0 (i := j) rfl rfl rfl rfl hj rfl ?_
  repeat ((apply HQ.fieldAddr; (iterate 3 exact rfl); exact inferInstance; exact rfl))
  refine HQ.load1 rfl rfl rfl (Rd1.of r2 rfl) rfl ?_
  repeat (first | ((apply HQ.assign); (iterate 3 exact rfl)) | ((apply HQ.done0); exact rfl) | ((apply HQ.cmp); (iterate 5 exact rfl)))
  repeat (first | (apply H.then_normal) | (apply H.ret))
  exact H.ret1 rfl rfl (fun _ h => h) ⟨rfl, rfl, rfl⟩
theorem nswap_fn {p : Option Addr} {n c i j : Nat} {l : List Nm} (hn : l.length = n) (hi : i < n) (hj : j < n) : Fn Tryz.prog 209 [.slice p n c, .int .i64 (i : Int), .int .i64 (j : Int)] f (slc p n c 136 2 (l.flatMap nmV) :: F)
    (Ret (.tuple #[]) f (slc p n c 136 2 ((swp l i j).flatMap nmV) :: F)) := by
  refine Fn.enter Tryz.func209 rfl Tryz.ntmps209 rfl (L := [(0, _), (1, _), (2, _)]) ⟨rfl, rfl, rfl, trivial⟩ fun base => ?_
  refine H.slc_some (.here _ _ _) (by omega) fun sb hsb => ?_
  subst hsb
  have r1 : Rd f (slc (some ⟨sb, 0, none⟩) n c 136 2 (l.flatMap nmV) :: F) sb (i * 2) (nmV (nmAt l i)) := Rd.slcElem nmV_len (by decide) (.here _ _ _) (nmAt_some (by omega))
  have r2 : Rd f (slc (some ⟨sb, 0, none⟩) n c 136 2 (l.flatMap nmV) :: F) sb (j * 2) (nmV (nmAt l j)) := Rd.slcElem nmV_len (by decide) (.here _ _ _) (nmAt_some (by omega))
  skip
  refine H.drawN (by kernel_rfl) (by decide +kernel) (by repeat (first | exact blind_fn | refine blind_seq ?_ | refine blind_block ?_ | refine blind_loop ?_)) ?_
  refine HN.move (i := 2) (by kernel_rfl) rfl rfl rfl rfl ?_
  refine HN.move (i := 3) (by kernel_rfl) rfl rfl rfl rfl ?_
  refine HN.phase [0, 1, 4, 5, 6, 7, 8, 9, 10, 11] (S := [slc (some ⟨sb, 0, none⟩) n c 136 2 (l.flatMap nmV)]) rfl ?_
  have q1 : Rd f [slc (some ⟨sb, 0, none⟩) n c 136 2 (l.flatMap nmV)] sb (i * 2) (nmV (nmAt l i)) := Rd.slcElem nmV_len (by decide) (.here _ _ _) (nmAt_some (by omega))
  have q2 : Rd f [slc (some ⟨sb, 0, none⟩) n c 136 2 (l.flatMap nmV)] sb (j * 2) (nmV (nmAt l j)) := Rd.slcElem nmV_len (by decide) (.here _ _ _) (nmAt_some (by omega))
  refine HB.quiet [(0, false), (1, false), (4, false), (5, false), (6, false), (7, false), (8, false), (9, false), (10, false), (11, false)] 4 (by kernel_rfl) ?_
  repeat (((apply HQ.move); (iterate 3 exact rfl)))
  refine HQ.index0 (i := j) rfl rfl rfl rfl hj rfl ?_
  refine HQ.loadN (ls := nmV (nmAt l j)) rfl rfl rfl q2 rfl rfl ?_
  repeat (((apply HQ.move); (iterate 3 exact rfl)))
  refine HQ.index0 (i := i) rfl rfl rfl rfl hi rfl ?_
  refine HQ.loadN (ls := nmV (nmAt l i)) rfl rfl rfl q1 rfl rfl ?_
  refine HQ.more rfl ?_
  refine HB.next [] (by kernel_rfl) (S' := []) rfl ?_
  refine HB.quiet [(12, false)] 3 (by kernel_rfl) ?_
  refine HQ.index0 (i := i) rfl rfl rfl rfl hi rfl ?_
  refine HQ.more rfl ?_
  refine HB.ev1 (i := 13) (by kernel_rfl) rfl ?_
  refine H.storeE (vals := nmV) (xs := l) (i := i) (z := nmAt l j) nmV_len (by decide) (nmV_one _) rfl rfl rfl (by omega) (.here _ _ _) ?_
  repeat ((apply H.nil))
  refine H.on0 rfl ?_
  refine HB.quiet [(14, false)] 1 (by kernel_rfl) ?_
  refine HQ.index0 (i := j) rfl rfl rfl rfl hj rfl ?_
  refine HQ.more rfl ?_
  refine HB.ev1 (i := 15) (by kernel_rfl) rfl ?_
  refine H.storeE (vals := nmV) (xs := l.set i (nmAt l j)) (i := j) (z := nmAt l i) nmV_len (by decide) (nmV_one _) rfl rfl rfl (by rw [List.length_set]; omega) (.here _ _ _) ?_
  repeat ((apply H.nil))
  refine H.on0 rfl ?_
  refine HB.done (by kernel_rfl) ?_
  skip
  exact H.end0 rfl (fun _ h => h) ⟨rfl, rfl, rfl⟩
theorem npush_fn {nb : Nat} {p : Option Addr} {c : Nat} {l : List Nm} {k : Nm} (hn : l.length ≤ 1000000) : Fn Tryz.prog 208 [.pointer (some ⟨nb, 0, none⟩), .iface 136 (.agg (nmV k).toArray)] f (slc p l.length c 136 2 (l.flatMap nmV) :: row nb 134 [.slice p l.length c] :: F)
    (fun v f' A' => ∃ p' c', v = .tuple #[] ∧ f' = f ∧ A' = row nb 134 [.slice p' (l ++ [k]).length c'] :: slc p' (l ++ [k]).length c' 136 2 ((l ++ [k]).flatMap nmV) :: F) := by
  refine Fn.enter Tryz.func208 rfl Tryz.ntmps208 rfl (L := [(0, _), (1, _)]) ⟨rfl, rfl, trivial⟩ fun base => ?_
  refine H.front (x := row nb _ _) (by repeat (first | exact .here _ _ | apply Pull.there)) ?_
  skip
  refine H.drawC [0, 1, 2, 3, 4, 5, 6, 7, 8] (by kernel_rfl) (by decide +kernel) (by repeat (first | exact blind_fn | refine blind_seq ?_ | refine blind_block ?_ | refine blind_loop ?_)) (S := [row nb 134 [.slice p l.length c]]) rfl ?_
  refine HB.quiet [(0, false), (1, false), (2, false), (3, false), (4, false), (5, false)] 4 (by kernel_rfl) ?_
  repeat (first | ((first | apply HQ.move | apply HQ.nilCheck); (iterate 3 exact rfl)) | (apply HQ.load1; (iterate 3 exact rfl); apply Rd1.ofRow; (repeat (exact .here _ _ _)); (iterate 2 exact rfl)))
  refine HQ.assertI (by rfl) rfl rfl rfl ?_
  refine HQ.more rfl ?_
  refine HB.ev1 (i := 6) (by kernel_rfl) rfl ?_
  refine H.buildSlice (out := nmV k) rfl rfl rfl rfl (by decide) (by decide) rfl rfl fun eb => ?_
  repeat ((apply H.nil))
  refine H.front (x := row nb _ _) (by repeat (first | exact .here _ _ | apply Pull.there)) ?_
  refine H.on0 rfl ?_
  refine HB.ev1 (i := 7) (by kernel_rfl) rfl ?_
  refine H.append (xs := l.flatMap nmV) (m := 1) (news := nmV k) rfl rfl rfl rfl rfl (fun p' c' => (by repeat (first | exact .here _ _ _ | apply At.there))) (Src.slice (Rd.ofRow (by repeat (first | exact .here _ _ _ | apply At.there))) rfl) (nmV_one k) rfl (by omega) (by omega) fun p2 c2 => ?_
  refine H.drop (x := row eb _ _) (by repeat (first | exact .here _ _ | apply Pull.there)) ?_
  repeat ((apply H.nil))
  refine H.on0 rfl ?_
  refine HB.quiet [(8, false)] 1 (by kernel_rfl) ?_
  repeat (((apply HQ.nilCheck); (iterate 3 exact rfl)))
  refine HQ.more rfl ?_
  refine HB.next [] (by kernel_rfl) (S' := []) rfl ?_
  refine HB.ev1 (i := 9) (by kernel_rfl) rfl ?_
  repeat (first | (apply H.nil) | (apply H.store1; (iterate 4 exact rfl); (repeat (exact .here _ _ _))))
  refine H.on0 rfl ?_
  refine HB.done (by kernel_rfl) ?_
  skip
  refine H.end0 rfl (fun _ h => h) ⟨p2, c2, rfl, rfl, ?_⟩
  rw [show l.length + 1 = (l ++ [k]).length by simp, show l.flatMap nmV ++ nmV k = (l ++ [k]).flatMap nmV by simp]
  rfl
theorem npop_fn {nb : Nat} {p : Option Addr} {c m : Nat} {l : List Nm} (hn : l.length = m + 1) (hm : m ≤ 1000000) : Fn Tryz.prog 207 [.pointer (some ⟨nb, 0, none⟩)] f (slc p (m + 1) c 136 2 (l.flatMap nmV) :: row nb 134 [.slice p (m + 1) c] :: F)
    (Ret (.iface 136 (.agg (nmV (nmAt l m)).toArray)) f F) := by
  refine Fn.enter Tryz.func207 rfl Tryz.ntmps207 rfl (L := [(0, _)]) ⟨rfl, trivial⟩ fun base => ?_
  refine H.front (x := row nb _ _) (by repeat (first | exact .here _ _ | apply Pull.there)) ?_
  refine H.slc_some (.there _ (.here _ _ _)) (by omega) fun sb hsb => ?_
  subst hsb
  refine H.slc_cap (.there _ (.here _ _ _)) fun hcap _ _ => ?_
  have r1 : Rd f (row nb 134 [.slice (some ⟨sb, 0, none⟩) (m + 1) c] :: slc (some ⟨sb, 0, none⟩) (m + 1) c 136 2 (l.flatMap nmV) :: F) sb (m * 2) (nmV (nmAt l m)) := Rd.slcElem nmV_len (by decide) (.there _ (.here _ _ _)) (nmAt_some (by omega))
  repeat (first | ((first | apply H.move | apply H.assign | apply H.nilCheck | apply H.len_slice); (iterate 3 exact rfl)) | (apply H.load1; (iterate 3 exact rfl); apply Rd1.ofRow; (repeat (exact .here _ _ _)); (iterate 2 exact rfl)) | (first | apply H.seq | apply H.region | apply H.nil | apply H.then_normal) | ((apply H.ar; (iterate 4 exact rfl)); (with_reducible apply wr_i64_s1; omega); exact rfl))
  refine H.index0 (i := m) rfl rfl rfl rfl (by omega) rfl ?_
  refine H.loadN (ls := nmV (nmAt l m)) rfl rfl rfl r1 rfl rfl ?_
  refine H.alloc (ls := nmV (0, 0)) rfl rfl rfl fun xb => ?_
  refine H.storeN (ls := nmV (0, 0)) (vs := nmV (nmAt l m)) (ls' := nmV (nmAt l m)) rfl rfl rfl (nmV_one _) rfl rfl (Nat.le_refl 2) (.here _ _ _) ?_
  repeat (first | ((first | apply H.move | apply H.nilCheck); (iterate 3 exact rfl)) | (apply H.load1; (iterate 3 exact rfl); apply Rd1.ofRow; (repeat (first | exact .here _ _ _ | apply At.there)); (iterate 2 exact rfl)) | (first | apply H.seq | apply H.region | apply H.nil | apply H.then_normal))
  refine H.sliceTo (hv := m) rfl rfl rfl rfl (by omega) rfl ?_
  repeat (first | ((apply H.nilCheck); (iterate 3 exact rfl)) | (first | apply H.seq | apply H.region | apply H.nil | apply H.then_normal) | (apply H.store1; (iterate 4 exact rfl); (repeat (first | exact .here _ _ _ | apply At.there))))
  refine H.loadN (ls := nmV (nmAt l m)) rfl rfl rfl (Rd.ofRow (.here _ _ _)) rfl rfl ?_
  refine H.makeI (by rfl) rfl rfl rfl ?_
  repeat (first | ((apply H.assign); (iterate 3 exact rfl)) | (first | apply H.nil | apply H.then_normal) | (apply H.ret))
  refine H.drop (.here _ _) ?_
  refine H.drop (.here _ _) ?_
  refine H.drop (.here _ _) ?_
  exact H.ret1 rfl rfl (fun _ h => h) ⟨rfl, rfl, rfl⟩
theorem up_fn {nb : Nat} {p : Option Addr} {n c j : Nat} {l : List Nm} {z : Int} (hn : l.length = n) (hn1 : n ≤ 1000000) (h : HeapBut l j) (hj : j < n) (hz : z = (j : Nat)) :
    Fn Tryz.prog 91 [.iface 132 (.pointer (some ⟨nb, 0, none⟩)), .int .i64 z] f (slc p n c 136 2 (l.flatMap nmV) :: row nb 134 [.slice p n c] :: F)
    (fun v f' A' => ∃ l', Heap l' ∧ (∀ x, x ∈ l' ↔ x ∈ l) ∧ l'.length = n ∧ v = .tuple #[] ∧ f' = f ∧ A' = slc p n c 136 2 (l'.flatMap nmV) :: row nb 134 [.slice p n c] :: F) := by
  subst hz
  refine Fn.enter Tryz.func91 rfl Tryz.ntmps91 rfl (L := [(0, _), (1, _)]) ⟨rfl, rfl, trivial⟩ fun base => ?_
  repeat ((apply H.block))
  refine H.loop (ι := List Nm × Nat) (fun s => [(0, .iface 132 (.pointer (some ⟨nb, 0, none⟩))), (1, .int .i64 (s.2 : Int))]) (fun _ => f)
    (fun s => slc p n c 136 2 (s.1.flatMap nmV) :: row nb 134 [.slice p n c] :: F)
    (fun s => HeapBut s.1 s.2 ∧ s.2 < n ∧ s.1.length = n ∧ ∀ x, x ∈ s.1 ↔ x ∈ l) (fun s => s.2) (l, j) ⟨h, hj, hn, fun _ => Iff.rfl⟩ ⟨rfl, rfl, trivial⟩ rfl rfl fun s hs => ?_
  obtain ⟨s, k⟩ := s
  obtain ⟨h1, h2, h3, h4⟩ : HeapBut s k ∧ k < n ∧ s.length = n ∧ ∀ x, x ∈ s ↔ x ∈ l := hs
  show H _ _ _ [_, (1, .int .i64 (k : Int))] f (slc p n c _ 2 (s.flatMap nmV) :: _ :: F) _
  by_cases h0 : k = 0
  · skip
    have hq : IntKind.i64.wrap (Int.tdiv ((k : Int) - 1) 2) = 0 := by subst h0; decide
    repeat (first | ((apply H.move); (iterate 3 exact rfl)) | (first | apply H.seq | apply H.region) | ((apply H.ar; (iterate 4 exact rfl)); (with_reducible apply wr_i64; omega); exact rfl) | (apply H.block))
    refine H.quo rfl rfl rfl (by decide) hq rfl ?_
    repeat (first | ((first | apply H.move | apply H.assign); (iterate 3 exact rfl)) | (first | apply H.seq | apply H.region | apply H.nil | apply H.then_normal) | ((apply H.cmp); (iterate 5 exact rfl)) | (apply H.pass; (iterate 2 exact rfl)) | (apply H.pickT; (iterate 4 exact rfl)) | (apply H.cond_true; exact rfl) | (first | apply H.then_exit | apply H.exit | apply H.in_hit | apply H.loop_exit) | (apply H.in_miss; exact rfl) | (apply H.gyes; (iterate 3 exact rfl); (omega)))
    exact H.end0 rfl (fun _ h => h) ⟨s, (by subst h0; exact h1.zero), h4, h3, rfl, rfl, rfl⟩
  · skip
    have hq : IntKind.i64.wrap (Int.tdiv ((k : Int) - 1) 2) = (((k - 1) / 2 : Nat) : Int) := by
      rw [show (k : Int) - 1 = ((k - 1 : Nat) : Int) by omega, show (2 : Int) = ((2 : Nat) : Int) from rfl, show (((k - 1 : Nat) : Int)).tdiv ((2 : Nat) : Int) = (((k - 1) / 2 : Nat) : Int) from rfl]
      exact wr_i64 (by omega)
    have hik : (k - 1) / 2 < n := by omega
    repeat (first | ((apply H.move); (iterate 3 exact rfl)) | (first | apply H.seq | apply H.region) | ((apply H.ar; (iterate 4 exact rfl)); (with_reducible apply wr_i64; omega); exact rfl) | (apply H.block))
    refine H.quo rfl rfl rfl (by decide) hq rfl ?_
    repeat (first | ((first | apply H.move | apply H.assign); (iterate 3 exact rfl)) | (first | apply H.seq | apply H.region | apply H.nil | apply H.then_normal) | ((apply H.cmp); (iterate 5 exact rfl)) | (apply H.gno; (iterate 3 exact rfl); (omega)))
    refine H.invLR met_less rfl rfl rfl rfl rfl (Rd1.ofRow (.there _ (.here _ _ _)) rfl) (nless_fn f _ h3 h2 hik) ?_
    by_cases hlt : (nmAt s k).1 < (nmAt s ((k - 1) / 2)).1
    · refine H.not_yes rfl rfl hlt rfl ?_
      repeat (first | ((apply H.move); (iterate 3 exact rfl)) | (first | apply H.seq | apply H.region | apply H.nil | apply H.then_normal) | ((apply H.pickF); (iterate 4 exact rfl)) | (apply H.cond_false; exact rfl) | (apply H.skip))
      refine H.invLR met_swap rfl rfl rfl rfl rfl (Rd1.ofRow (.there _ (.here _ _ _)) rfl) (nswap_fn f _ h3 hik h2) ?_
      repeat (first | ((first | apply H.move | apply H.assign); (iterate 3 exact rfl)) | (first | apply H.region | apply H.nil | apply H.then_normal) | (apply H.in_normal))
      exact H.again (swp s ((k - 1) / 2) k, (k - 1) / 2) ⟨h1.step (by omega) (by omega) hlt, hik, by show (swp s _ _).length = n; rw [swp_len]; exact h3, fun x => (swp_mem (by omega) (by omega) x).trans (h4 x)⟩ (by show (k - 1) / 2 < k; omega) ⟨rfl, rfl, trivial⟩ rfl rfl
    · refine H.not_no rfl rfl hlt rfl ?_
      repeat (first | (first | apply H.nil | apply H.then_normal) | ((apply H.pickF); (iterate 4 exact rfl)) | (apply H.cond_true; exact rfl) | (first | apply H.then_exit | apply H.exit | apply H.in_hit | apply H.loop_exit) | (apply H.in_miss; exact rfl))
      exact H.end0 rfl (fun _ h => h) ⟨s, h1.fine (by omega), h4, h3, rfl, rfl, rfl⟩
theorem hpush_fn {nb : Nat} {p : Option Addr} {n c : Nat} {l : List Nm} {k : Nm} (hn : l.length = n) (hn1 : n < 1000000) (h : Heap l) :
    Fn Tryz.prog 66 [.iface 132 (.pointer (some ⟨nb, 0, none⟩)), .iface 136 (.agg (nmV k).toArray)] f (slc p n c 136 2 (l.flatMap nmV) :: row nb 134 [.slice p n c] :: F)
    (fun v f' A' => ∃ p' c' l', Heap l' ∧ (∀ x, x ∈ l' ↔ x ∈ l ∨ x = k) ∧ l'.length = n + 1 ∧ v = .tuple #[] ∧ f' = f ∧ A' = slc p' (n + 1) c' 136 2 (l'.flatMap nmV) :: row nb 134 [.slice p' (n + 1) c'] :: F) := by
  subst hn
  refine Fn.enter Tryz.func66 rfl Tryz.ntmps66 rfl (L := [(0, _), (1, _)]) ⟨rfl, rfl, trivial⟩ fun base => ?_
  repeat (first | ((apply H.move); (iterate 3 exact rfl)) | (first | apply H.seq | apply H.region))
  refine H.invP 208 met_push rfl rfl rfl rfl rfl (npush_fn f F (by omega)) fun v f' A' hr => ?_
  obtain ⟨p', c', rfl, rfl, rfl⟩ := hr
  have hl : (l ++ [k]).length = l.length + 1 := by simp
  have hb := h.push k
  have hm : ∀ x, x ∈ l ++ [k] ↔ x ∈ l ∨ x = k := fun x => by simp
  rw [hl]
  generalize l ++ [k] = l2 at *
  repeat (first | ((apply H.move); (iterate 3 exact rfl)) | (first | apply H.region | apply H.nil | apply H.then_normal))
  refine H.invLR met_len rfl rfl rfl rfl rfl (Rd1.ofRow (.here _ _ _) rfl) (nlen_fn f' _) ?_
  repeat (((apply H.ar; (iterate 4 exact rfl)); (with_reducible apply wr_i64_s1; omega); exact rfl))
  refine H.front (x := slc _ _ _ _ _ _) (by repeat (first | exact .here _ _ | apply Pull.there)) ?_
  refine H.call rfl rfl rfl (up_fn f' F (j := l.length) hl (by omega) hb (by omega) (by omega)) fun v f2 A' hr => ?_
  obtain ⟨l', a1, a2, a3, rfl, rfl, rfl⟩ := hr
  repeat ((apply H.nil))
  exact H.end0 rfl (fun _ h => h) ⟨p', c', l', a1, fun x => (a2 x).trans (hm x), a3, rfl, rfl, rfl⟩
theorem down_fn {nb : Nat} {p : Option Addr} {n c m : Nat} {l : List Nm} {z : Int} (hn : l.length = n) (hn1 : n ≤ 1000000) (hm : m < n) (hz : z = (m : Nat)) :
    Fn Tryz.prog 92 [.iface 132 (.pointer (some ⟨nb, 0, none⟩)), .int .i64 0, .int .i64 z] f (slc p n c 136 2 (l.flatMap nmV) :: row nb 134 [.slice p n c] :: F)
    (fun v f' A' => ∃ b l', l'.length = n ∧ nmAt l' m = nmAt l m ∧ v = .bool b ∧ f' = f ∧ A' = slc p n c 136 2 (l'.flatMap nmV) :: row nb 134 [.slice p n c] :: F) := by
  subst hz
  refine Fn.enter Tryz.func92 rfl Tryz.ntmps92 rfl (L := [(0, _), (1, _), (2, _)]) ⟨rfl, rfl, rfl, trivial⟩ fun base => ?_
  repeat (first | ((first | apply H.move | apply H.assign); (iterate 3 exact rfl)) | (first | apply H.seq | apply H.region | apply H.nil | apply H.then_normal) | (apply H.block))
  refine H.loop (ι := List Nm × Nat) (fun s => [(0, .iface 132 (.pointer (some ⟨nb, 0, none⟩))), (1, .int .i64 0), (2, .int .i64 (m : Int)), (7, .int .i64 (s.2 : Int)), (6, .bool false)]) (fun _ => f)
    (fun s => slc p n c 136 2 (s.1.flatMap nmV) :: row nb 134 [.slice p n c] :: F)
    (fun s => s.2 ≤ m ∧ s.1.length = n ∧ nmAt s.1 m = nmAt l m) (fun s => m - s.2) (l, 0) ⟨Nat.zero_le _, hn, rfl⟩ ⟨rfl, rfl, rfl, rfl, rfl, trivial⟩ rfl rfl fun s hs => ?_
  obtain ⟨s, i⟩ := s
  obtain ⟨h2, h3, h4⟩ : i ≤ m ∧ s.length = n ∧ nmAt s m = nmAt l m := hs
  show H _ _ _ [_, _, _, (7, .int .i64 (i : Int)), _] f (slc p n c _ 2 (s.flatMap nmV) :: _ :: F) _
  by_cases h5 : m ≤ 2 * i + 1
  · skip
    repeat (first | ((first | apply H.move | apply H.assign); (iterate 3 exact rfl)) | (first | apply H.seq | apply H.region | apply H.nil | apply H.then_normal) | ((apply H.cmp); (iterate 5 exact rfl)) | ((apply H.ar; (iterate 4 exact rfl)); (with_reducible apply wr_i64; omega); exact rfl) | (apply H.pass; (iterate 2 exact rfl)) | (apply H.pickT; (iterate 4 exact rfl)) | (apply H.cond_true; exact rfl) | (first | apply H.ret | apply H.then_exit | apply H.exit | apply H.block | apply H.in_hit | apply H.loop_exit) | (apply H.in_miss; exact rfl) | (apply H.gyes; (iterate 3 exact rfl); (omega)))
    exact H.ret1 rfl rfl (fun _ h => h) ⟨_, s, h3, h4, rfl, rfl, rfl⟩
  · skip
    by_cases h6 : 2 * i + 2 < m
    · repeat (first | ((first | apply H.move | apply H.assign); (iterate 3 exact rfl)) | (first | apply H.seq | apply H.region | apply H.nil | apply H.then_normal) | ((apply H.cmp); (iterate 5 exact rfl)) | ((apply H.ar; (iterate 4 exact rfl)); (with_reducible apply wr_i64; omega); exact rfl) | ((apply H.pickF); (iterate 4 exact rfl)) | (apply H.cond_false; exact rfl) | (first | apply H.skip | apply H.block) | (apply H.gyes; (iterate 3 exact rfl); (omega)) | (apply H.gno; (iterate 3 exact rfl); (omega)))
      refine H.invLR met_less rfl rfl rfl rfl rfl (Rd1.ofRow (.there _ (.here _ _ _)) rfl) (nless_fn f _ h3 (i := 2 * i + 2) (j := 2 * i + 1) (by omega) (by omega)) ?_
      by_cases h7 : (nmAt s (2 * i + 2)).1 < (nmAt s (2 * i + 1)).1
      · skip
        repeat (first | ((first | apply H.move | apply H.assign); (iterate 3 exact rfl)) | (first | apply H.seq | apply H.region | apply H.nil | apply H.then_normal) | (apply H.pickT; (iterate 4 exact rfl)) | (apply H.cond_yes; exact rfl; (assumption)))
        obtain ⟨jj, hjj⟩ : ∃ jj, jj = 2 * i + 2 := ⟨_, rfl⟩
        refine H.know (d := 9) (u := .int .i64 ((jj : Nat) : Int)) rfl (by subst hjj; rfl) ?_
        skip
        refine H.know (d := 36) (u := .int .i64 ((jj : Nat) : Int)) rfl (by subst hjj; rfl) ?_
        refine H.invLR met_less rfl rfl rfl rfl rfl (Rd1.ofRow (.there _ (.here _ _ _)) rfl) (nless_fn f _ h3 (i := jj) (j := i) (by omega) (by omega)) ?_
        by_cases hlt : (nmAt s jj).1 < (nmAt s i).1
        · refine H.not_yes rfl rfl hlt rfl ?_
          repeat (first | ((apply H.move); (iterate 3 exact rfl)) | (first | apply H.seq | apply H.region | apply H.nil | apply H.then_normal) | (apply H.cond_false; exact rfl) | (apply H.skip))
          refine H.invLR met_swap rfl rfl rfl rfl rfl (Rd1.ofRow (.there _ (.here _ _ _)) rfl) (nswap_fn f _ h3 (i := i) (j := jj) (by omega) (by omega)) ?_
          repeat (first | ((first | apply H.move | apply H.assign); (iterate 3 exact rfl)) | (first | apply H.region | apply H.nil | apply H.then_normal) | (apply H.in_normal))
          exact H.again (swp s i jj, jj) ⟨by show jj ≤ m; omega, by show (swp s i jj).length = n; rw [swp_len]; exact h3, by show nmAt (swp s i jj) m = _; rw [swp_at (by omega) (by omega), if_neg (by omega), if_neg (by omega)]; exact h4⟩ (by show m - jj < m - i; omega) ⟨rfl, rfl, rfl, rfl, rfl, trivial⟩ rfl rfl
        · refine H.not_no rfl rfl hlt rfl ?_
          repeat (first | ((first | apply H.move | apply H.assign); (iterate 3 exact rfl)) | (first | apply H.seq | apply H.region | apply H.nil | apply H.then_normal) | ((apply H.cmp); (iterate 5 exact rfl)) | (apply H.cond_true; exact rfl) | (first | apply H.ret | apply H.then_exit | apply H.exit | apply H.in_hit | apply H.loop_exit) | (apply H.in_miss; exact rfl))
          exact H.ret1 rfl rfl (fun _ h => h) ⟨_, s, h3, h4, rfl, rfl, rfl⟩
      · skip
        repeat (first | ((apply H.move); (iterate 3 exact rfl)) | (first | apply H.seq | apply H.region | apply H.nil | apply H.then_normal) | (apply H.pickT; (iterate 4 exact rfl)) | (apply H.skip) | (apply H.cond_no; exact rfl; (assumption)))
        obtain ⟨jj, hjj⟩ : ∃ jj, jj = 2 * i + 1 := ⟨_, rfl⟩
        refine H.know (d := 9) (u := .int .i64 ((jj : Nat) : Int)) rfl (by subst hjj; rfl) ?_
        skip
        refine H.know (d := 36) (u := .int .i64 ((jj : Nat) : Int)) rfl (by subst hjj; rfl) ?_
        refine H.invLR met_less rfl rfl rfl rfl rfl (Rd1.ofRow (.there _ (.here _ _ _)) rfl) (nless_fn f _ h3 (i := jj) (j := i) (by omega) (by omega)) ?_
        by_cases hlt : (nmAt s jj).1 < (nmAt s i).1
        · refine H.not_yes rfl rfl hlt rfl ?_
          repeat (first | ((apply H.move); (iterate 3 exact rfl)) | (first | apply H.seq | apply H.region | apply H.nil | apply H.then_normal) | (apply H.cond_false; exact rfl) | (apply H.skip))
          refine H.invLR met_swap rfl rfl rfl rfl rfl (Rd1.ofRow (.there _ (.here _ _ _)) rfl) (nswap_fn f _ h3 (i := i) (j := jj) (by omega) (by omega)) ?_
          repeat (first | ((first | apply H.move | apply H.assign); (iterate 3 exact rfl)) | (first | apply H.region | apply H.nil | apply H.then_normal) | (apply H.in_normal))
          exact H.again (swp s i jj, jj) ⟨by show jj ≤ m; omega, by show (swp s i jj).length = n; rw [swp_len]; exact h3, by show nmAt (swp s i jj) m = _; rw [swp_at (by omega) (by omega), if_neg (by omega), if_neg (by omega)]; exact h4⟩ (by show m - jj < m - i; omega) ⟨rfl, rfl, rfl, rfl, rfl, trivial⟩ rfl rfl
        · refine H.not_no rfl rfl hlt rfl ?_
          repeat (first | ((first | apply H.move | apply H.assign); (iterate 3 exact rfl)) | (first | apply H.seq | apply H.region | apply H.nil | apply H.then_normal) | ((apply H.cmp); (iterate 5 exact rfl)) | (apply H.cond_true; exact rfl) | (first | apply H.ret | apply H.then_exit | apply H.exit | apply H.in_hit | apply H.loop_exit) | (apply H.in_miss; exact rfl))
          exact H.ret1 rfl rfl (fun _ h => h) ⟨_, s, h3, h4, rfl, rfl, rfl⟩
    · skip
      repeat (first | ((first | apply H.move | apply H.assign); (iterate 3 exact rfl)) | (first | apply H.seq | apply H.region | apply H.nil | apply H.then_normal) | ((apply H.cmp); (iterate 5 exact rfl)) | ((apply H.ar; (iterate 4 exact rfl)); (with_reducible apply wr_i64; omega); exact rfl) | (apply H.pass; (iterate 2 exact rfl)) | ((apply H.pickF); (iterate 4 exact rfl)) | (apply H.cond_false; exact rfl) | (first | apply H.skip | apply H.block) | (apply H.gno; (iterate 3 exact rfl); (omega)))
      obtain ⟨jj, hjj⟩ : ∃ jj, jj = 2 * i + 1 := ⟨_, rfl⟩
      refine H.know (d := 9) (u := .int .i64 ((jj : Nat) : Int)) rfl (by subst hjj; rfl) ?_
      skip
      refine H.know (d := 36) (u := .int .i64 ((jj : Nat) : Int)) rfl (by subst hjj; rfl) ?_
      refine H.invLR met_less rfl rfl rfl rfl rfl (Rd1.ofRow (.there _ (.here _ _ _)) rfl) (nless_fn f _ h3 (i := jj) (j := i) (by omega) (by omega)) ?_
      by_cases hlt : (nmAt s jj).1 < (nmAt s i).1
      · refine H.not_yes rfl rfl hlt rfl ?_
        repeat (first | ((apply H.move); (iterate 3 exact rfl)) | (first | apply H.seq | apply H.region | apply H.nil | apply H.then_normal) | (apply H.cond_false; exact rfl) | (apply H.skip))
        refine H.invLR met_swap rfl rfl rfl rfl rfl (Rd1.ofRow (.there _ (.here _ _ _)) rfl) (nswap_fn f _ h3 (i := i) (j := jj) (by omega) (by omega)) ?_
        repeat (first | ((first | apply H.move | apply H.assign); (iterate 3 exact rfl)) | (first | apply H.region | apply H.nil | apply H.then_normal) | (apply H.in_normal))
        exact H.again (swp s i jj, jj) ⟨by show jj ≤ m; omega, by show (swp s i jj).length = n; rw [swp_len]; exact h3, by show nmAt (swp s i jj) m = _; rw [swp_at (by omega) (by omega), if_neg (by omega), if_neg (by omega)]; exact h4⟩ (by show m - jj < m - i; omega) ⟨rfl, rfl, rfl, rfl, rfl, trivial⟩ rfl rfl
      · refine H.not_no rfl rfl hlt rfl ?_
        repeat (first | ((first | apply H.move | apply H.assign); (iterate 3 exact rfl)) | (first | apply H.seq | apply H.region | apply H.nil | apply H.then_normal) | ((apply H.cmp); (iterate 5 exact rfl)) | (apply H.cond_true; exact rfl) | (first | apply H.ret | apply H.then_exit | apply H.exit | apply H.in_hit | apply H.loop_exit) | (apply H.in_miss; exact rfl))
        exact H.ret1 rfl rfl (fun _ h => h) ⟨_, s, h3, h4, rfl, rfl, rfl⟩
theorem hpop_fn {nb : Nat} {p : Option Addr} {n c m : Nat} {l : List Nm} (hn : l.length = m + 1) (hn1 : m < 1000000) :
    Fn Tryz.prog 68 [.iface 132 (.pointer (some ⟨nb, 0, none⟩))] f (slc p (m + 1) c 136 2 (l.flatMap nmV) :: row nb 134 [.slice p (m + 1) c] :: F)
    (Ret (.iface 136 (.agg (nmV (nmAt l 0)).toArray)) f F) := by
  refine Fn.enter Tryz.func68 rfl Tryz.ntmps68 rfl (L := [(0, _)]) ⟨rfl, trivial⟩ fun base => ?_
  repeat (first | ((first | apply H.move | apply H.assign); (iterate 3 exact rfl)) | (first | apply H.seq | apply H.region | apply H.nil | apply H.then_normal))
  refine H.invLR met_len rfl rfl rfl rfl rfl (Rd1.ofRow (.there _ (.here _ _ _)) rfl) (nlen_fn f _) ?_
  repeat (first | ((first | apply H.move | apply H.assign); (iterate 3 exact rfl)) | (first | apply H.seq | apply H.region | apply H.nil | apply H.then_normal) | ((apply H.ar; (iterate 4 exact rfl)); (with_reducible apply wr_i64_s1; omega); exact rfl))
  refine H.invLR met_swap rfl rfl rfl rfl rfl (Rd1.ofRow (.there _ (.here _ _ _)) rfl) (nswap_fn f _ (i := 0) (j := m) hn (by omega) (by omega)) ?_
  have hs : nmAt (swp l 0 m) m = nmAt l 0 := by rw [swp_at (by omega) (by omega), if_pos rfl]
  have hsl : (swp l 0 m).length = m + 1 := by rw [swp_len]; exact hn
  generalize swp l 0 m = l2 at *
  repeat (first | ((apply H.move); (iterate 3 exact rfl)) | (first | apply H.seq | apply H.region | apply H.nil | apply H.then_normal))
  refine H.call rfl rfl rfl (down_fn f F (m := m) hsl (by omega) (by omega) rfl) fun v f2 A' hr => ?_
  obtain ⟨b, l', a1, a2, rfl, rfl, rfl⟩ := hr
  repeat (first | ((apply H.move); (iterate 3 exact rfl)) | (first | apply H.seq | apply H.region | apply H.nil | apply H.then_normal))
  refine H.invPR met_pop rfl rfl rfl rfl (npop_fn f2 F a1 (by omega)) ?_
  rw [a2, hs]
  repeat (first | ((apply H.assign); (iterate 3 exact rfl)) | (first | apply H.nil | apply H.then_normal) | (apply H.ret))
  exact H.ret1 rfl rfl (fun _ h => h) ⟨rfl, rfl, rfl⟩
end
end Go.Proofs.YtoigpgdmignaoaaGreatDoor

/- Layer 13, plain: what is put and what comes next; messages of a world are all taken in the end. No program in sight; no conditions. -/
namespace Go.Proofs.YtoigpgdmignaoaaGreatDoor
open Go
def keyM (m : Msg) : Nm := (m.origin, m.number)
def openZ (e : Int) : Bool := decide (e = 0) || decide (e = 12)
def cntO (ws : List Msg) (o : Int) : Nat := (ws.filter fun x => decide (x.origin = o)).length
structure Top (ws : List Msg) (o : Int) (t : Msg) : Prop where
  mem : t ∈ ws
  org : t.origin = o
  max : ∀ y ∈ ws, y.origin = o → y.number ≤ t.number
def KU (ws : List Msg) : Prop := (ws.map keyM).Nodup
theorem KU.same {ws : List Msg} (h : KU ws) {x y : Msg} (hx : x ∈ ws) (hy : y ∈ ws) (e : keyM x = keyM y) : x = y := by
  unfold KU at h
  induction ws with
  | nil => cases hx
  | cons z r ih =>
    have h' := List.nodup_cons.1 h
    rcases List.mem_cons.1 hx with h1 | h1
    · rcases List.mem_cons.1 hy with h2 | h2
      · rw [h1, h2]
      · exact absurd (List.mem_map.2 ⟨y, h2, by rw [← e, h1]⟩) h'.1
    · rcases List.mem_cons.1 hy with h2 | h2
      · exact absurd (List.mem_map.2 ⟨x, h1, by rw [e, h2]⟩) h'.1
      · exact ih h'.2 h1 h2
theorem KU.filter {a : List Msg} (h : KU a) (p : Msg → Bool) : KU (a.filter p) := List.Sublist.nodup (List.Sublist.map keyM List.filter_sublist) h
theorem KU.snoc {a : List Msg} {m : Msg} (h : KU a) (hm : ∀ x ∈ a, keyM x ≠ keyM m) : KU (a ++ [m]) := by
  unfold KU
  rw [List.map_append]
  refine List.nodup_append.2 ⟨h, by simp, ?_⟩
  intro x hx y hy e
  obtain ⟨z, hz, rfl⟩ := List.mem_map.1 hx
  have : y = keyM m := by simpa using hy
  exact hm z hz (e.trans this)
inductive PutR (e : Int) (ws : List Msg) (m : Msg) : Int → List Msg → Prop
  | shut (h : openZ e = false) (ws' : List Msg) (hp : ws'.Perm ws) : PutR e ws m e ws'
  | again (h : openZ e = true) (x : Msg) (hx : x ∈ ws) (hk : keyM x = keyM m) (ws' : List Msg) (hp : ws'.Perm ws) : PutR e ws m 13 ws'
  | room (h : openZ e = true) (hk : ∀ x ∈ ws, keyM x ≠ keyM m) (hc : cntO ws m.origin < 11) (ws' : List Msg) (hp : ws'.Perm (ws ++ [m])) : PutR e ws m 0 ws'
  | full (h : openZ e = true) (hk : ∀ x ∈ ws, keyM x ≠ keyM m) (hc : 11 ≤ cntO ws m.origin) (t : Msg) (ht : Top ws m.origin t) (hl : t.number < m.number) (ws' : List Msg) (hp : ws'.Perm ws) : PutR e ws m 7 ws'
  | swap (h : openZ e = true) (hk : ∀ x ∈ ws, keyM x ≠ keyM m) (hc : 11 ≤ cntO ws m.origin) (t : Msg) (ht : Top ws m.origin t) (hl : ¬ t.number < m.number) (ws' : List Msg) (hp : (t :: ws').Perm (ws ++ [m])) : PutR e ws m 0 ws'
inductive NextR (c : Msg → Int) (ws : List Msg) : Option Msg → List Msg → Prop
  | no (h : ∀ x ∈ ws, c x ≠ 0) (ws' : List Msg) (hp : ws'.Perm (ws.filter fun x => openZ (c x))) : NextR c ws none ws'
  | yes (x : Msg) (hx : x ∈ ws) (h0 : c x = 0) (hl : ∀ y ∈ ws, c y = 0 → x.origin ≤ y.origin) (ws' : List Msg) (hp : (x :: ws').Perm (ws.filter fun x => openZ (c x))) : NextR c ws (some x) ws'
theorem cntO_perm {a b : List Msg} (h : a.Perm b) (o : Int) : cntO a o = cntO b o := (h.filter _).length_eq
theorem Top.perm {a b : List Msg} (h : a.Perm b) {o : Int} {t : Msg} (ht : Top a o t) : Top b o t := ⟨h.mem_iff.1 ht.mem, ht.org, fun y hy => ht.max y (h.mem_iff.2 hy)⟩
theorem cntO_cons (m : Msg) (ws : List Msg) (o : Int) : cntO (m :: ws) o = cntO ws o + (if m.origin = o then 1 else 0) := by
  unfold cntO
  rw [List.filter_cons]
  by_cases h : m.origin = o <;> simp [h]
end Go.Proofs.YtoigpgdmignaoaaGreatDoor

/- The engine, part u: an entry of a map is deleted, in a loop over the map, too. No program in sight; no conditions. -/
namespace Go.Proofs.YtoigpgdmignaoaaGreatDoor
open Go
section
variable {κ : Type} [DecidableEq κ] {enc : κ → Value}
def delE (k : κ) (es : List (κ × Value × Nat)) : List (κ × Value × Nat) := es.filter fun e => !decide (k = e.1)
theorem delE_mem {k : κ} {es : List (κ × Value × Nat)} {e : κ × Value × Nat} (h : e ∈ delE k es) : e ∈ es := (List.mem_filter.1 h).1
theorem delE_kv (k : κ) (es : List (κ × Value × Nat)) : (delE k es).map kvOf = (es.map kvOf).filter fun e => !decide (k = e.1) := by
  unfold delE
  rw [List.filter_map]
  rfl
theorem MapOk.del {es : List (κ × Value × Nat)} {clock : Nat} (h : MapOk es clock) (k : κ) : MapOk (delE k es) clock :=
  ⟨List.Sublist.nodup (List.Sublist.map _ List.filter_sublist) h.keys, List.Sublist.nodup (List.Sublist.map _ List.filter_sublist) h.stamps, fun e he => h.below e (delE_mem he)⟩
theorem delE_absent {k : κ} {es : List (κ × Value × Nat)} (h : k ∉ es.map (·.1)) : delE k es = es := by
  unfold delE
  rw [List.filter_eq_self]
  intro e he
  have : ¬ k = e.1 := fun h2 => h (List.mem_map.2 ⟨e, he, h2.symm⟩)
  rw [decide_eq_false this]; rfl
theorem delE_found {k : κ} : ∀ {es : List (κ × Value × Nat)} {i : Nat}, (es.map (·.1)).Nodup → (es.map (·.1)).findIdx? (k = ·) = some i → i < es.length ∧ es.eraseIdx i = delE k es
  | [], i, _, h => by simp at h
  | e :: r, i, hn, h => by
    have hn' := List.nodup_cons.1 hn
    rw [List.map_cons, List.findIdx?_cons] at h
    by_cases c : k = e.1
    · rw [if_pos (by simpa using c)] at h
      cases h
      refine ⟨by simp, ?_⟩
      have h2 : delE k r = r := delE_absent (by rw [c]; exact hn'.1)
      show r = (e :: r).filter _
      rw [List.filter_cons, if_neg (by rw [decide_eq_true c]; decide)]
      exact h2.symm
    · rw [if_neg (by simpa using c)] at h
      cases hj : (r.map (·.1)).findIdx? (k = ·) with
      | none => rw [hj] at h; cases h
      | some j =>
        rw [hj] at h
        cases h
        obtain ⟨h1, h2⟩ := delE_found hn'.2 hj
        refine ⟨by simp; omega, ?_⟩
        show e :: r.eraseIdx j = (e :: r).filter _
        rw [List.filter_cons, if_pos (by rw [decide_eq_false c]; rfl), h2]
        rfl
theorem map_erase {α β : Type} (g : α → β) : ∀ (l : List α) (i : Nat), (l.eraseIdx i).map g = (l.map g).eraseIdx i
  | [], i => by simp
  | a :: l, 0 => rfl
  | a :: l, i + 1 => by show g a :: (l.eraseIdx i).map g = _; rw [map_erase g l i]; rfl
variable {P : Program} {base : World} {n : Nat} {L : Env} {f : Frag} {A : List HP} {q : Post}
variable {l rest : List Oper} {d : Nat} {ty : TypeId} {pos : String} {af : Array Edge} {gd : Option (Nat × Bool)}
theorem H.deleteS {t u kt et : TypeId} {x y : Operand} {b : Nat} {es : List (κ × Value × Nat)} {clock : Nat} {k : κ} {kv : Value} {A' : List HP} [hu : Und P t (.map kt et)] [hk : KeyT P kt enc] (hw : want? l L gd = true)
    (hx : ev? L x = some (.map (some b))) (hy : ev? L y = some kv) (hA : At A (mpS b enc es clock) A' (mpS b enc (delE k es) clock)) (hkv : kv = enc k)
    (kk : H P base n L f A' (.ops l rest q)) : H P base n L f A (.ops l (⟨none, .call ⟨.builtin .delete, #[x, y], #[t, u]⟩, ty, pos, af, gd⟩ :: rest) q) := .mk fun a w hf s => by
  show wpList P l.toArray (q.den P) _ a w
  unfold wpList
  rw [if_pos (hf.want (o := ⟨none, _, ty, pos, af, gd⟩) hw)]
  refine .inl ?_
  subst hkv
  obtain ⟨ho, hb⟩ := s.mpS_at hA
  have hfk := hk.fnd k (es.map (entOf enc)) (es.map (·.1)) w (keys_entOf es)
  have hturn : Sat base { w with heap := w.heap.setIfInBounds b (.map ((delE k es).map (entOf enc)).toArray clock) } f A' :=
    s.turnRow hA (by rintro m ⟨_, rfl⟩; exact ⟨_, rfl⟩) rfl rfl rfl rfl ⟨ho.del k, rfl⟩
  have hrun : (Builtin.delete_ #[t, u] ty #[.map (some b), enc k]).run P w = .ok (.tuple #[]) { w with heap := w.heap.setIfInBounds b (.map ((delE k es).map (entOf enc)).toArray clock) } := by
    cases hi : (es.map (·.1)).findIdx? (k = ·) with
    | none =>
      rw [delE_absent ((mem_keys_iff es k).1 hi)]
      rw [hi] at hfk
      unfold Builtin.delete_
      simp only [List.getElem?_toArray, List.getElem?_cons_zero, List.getElem?_cons_succ, Sem.run_bind, hu.run, Result.andThen_ok, run_getMap hb, hk.chk, List.toList_toArray, hfk, Option.bind_none, run_setMap hb, Sem.run_pure]
    | some i =>
      obtain ⟨h1, h2⟩ := delE_found ho.keys hi
      rw [hi] at hfk
      have hei : (es.map (entOf enc))[i]? = some (entOf enc es[i]) := by rw [List.getElem?_map, List.getElem?_eq_getElem h1]; rfl
      have her : ((es.map (entOf enc)).toArray.eraseIdxIfInBounds i) = ((delE k es).map (entOf enc)).toArray := by
        rw [← h2]
        unfold Array.eraseIdxIfInBounds
        rw [dif_pos (by simpa using h1)]
        apply Array.ext'
        simp [map_erase]
      unfold Builtin.delete_
      simp only [List.getElem?_toArray, List.getElem?_cons_zero, List.getElem?_cons_succ, Sem.run_bind, hu.run, Result.andThen_ok, run_getMap hb, hk.chk, List.toList_toArray, hfk, Option.bind_some, hei, Option.map_some, her, run_setMap hb, Sem.run_pure]
  have h2 : (execOp a.eval ⟨none, .call ⟨.builtin .delete, #[x, y], #[t, u]⟩, ty, pos, af, gd⟩).run P w = .ok (.value (.tuple #[])) { w with heap := w.heap.setIfInBounds b (.map ((delE k es).map (entOf enc)).toArray clock) } := by
    simp only [execOp, resolve, invoke, builtin, hf.eval hx, hf.eval hy, Sem.run_bind, Sem.run_pure, Result.andThen_ok, List.map_toArray, List.map_cons, List.map_nil, hrun]
  simp only [Oper.wp, h2, Oper.upon]
  exact kk.out _ _ hf hturn
def itrW (r b : Nat) (es : List (κ × Value × Nat)) (clock : Nat) (seen : List κ) : HP := fun h =>
  ∃ sA : Array Nat, (∀ e ∈ es, sA.contains e.2.2 = true ↔ e.1 ∈ seen) ∧ h = sing r (.mapIter (some b) clock sA clock)
theorem itr_weak {r b : Nat} {es es' : List (κ × Value × Nat)} {clock : Nat} {seen : List κ} (hs : ∀ e ∈ es', e ∈ es) : ∀ x, itr r b es clock seen x → itrW r b es' clock seen x :=
  fun _ ⟨sA, h1, _, h3⟩ => ⟨sA, fun e he => h1 e (hs e he), h3⟩
theorem Sat.itrW_at {w : World} {A' : List HP} {r b : Nat} {es : List (κ × Value × Nat)} {clock : Nat} {seen : List κ} {y : HP} (s : Sat base w f A) (h : At A (itrW r b es clock seen) A' y) :
    ∃ sA : Array Nat, (∀ e ∈ es, sA.contains e.2.2 = true ↔ e.1 ∈ seen) ∧ w.heap[r]? = some (.mapIter (some b) clock sA clock) := by
  obtain ⟨R, h1, _⟩ := h.split
  obtain ⟨x, hm, _, hw⟩ := s.mem
  rw [h1] at hm
  obtain ⟨m1, m2, _, rfl, ⟨sA, a1, rfl⟩, _⟩ := hm
  exact ⟨sA, a1, hw r _ (by simp [un, sing])⟩
theorem H.nextW {x : Operand} {r b : Nat} {es : List (κ × Value × Nat)} {clock : Nat} {seen : List κ} {A1 A2 : List HP} {A' : κ → List HP} (hw : want? l L gd = true)
    (hx : ev? L x = some (.pointer (some ⟨r, 0, none⟩))) (hm : At A (mpS b enc es clock) A1 (mpS b enc es clock)) (hi : At A (itrW r b es clock seen) A2 (itrW r b es clock seen)) (hA : ∀ k, At A (itrW r b es clock seen) (A' k) (itr r b es clock (k :: seen))) (hd : Nat.ble (d + 1) n = true)
    (kend : (∀ e ∈ es, e.1 ∈ seen) → H P base n ((d, .tuple #[.bool false]) :: L) f A (.ops l rest q))
    (kk : ∀ e ∈ es, e.1 ∉ seen → H P base n ((d, .tuple #[.bool true, enc e.1, e.2.1]) :: L) f (A' e.1) (.ops l rest q)) : H P base n L f A (.ops l (⟨some d, .next x false, ty, pos, af, gd⟩ :: rest) q) :=
  H.opE (ι := Option (κ × Value × Nat)) (fun i => match i with | none => .tuple #[.bool false] | some e => .tuple #[.bool true, enc e.1, e.2.1]) (fun _ => f) (fun i => match i with | none => A | some e => A' e.1)
    (fun i => match i with | none => ∀ e ∈ es, e.1 ∈ seen | some e => e ∈ es ∧ e.1 ∉ seen) hw hd (fun a w hfr s => by
    obtain ⟨ho, hb⟩ := s.mpS_at hm
    obtain ⟨sA, a1, hr⟩ := s.itrW_at hi
    rcases run_next_itr (P := P) (ty := ty) ho hb hr with ⟨b1, b2⟩ | ⟨e, he, hc, w1, q1, q2, q3, q4, b2⟩
    · refine ⟨none, w, fun e he => (a1 e he).1 (b1 e he), ?_, s⟩
      simp only [execOp, hfr.eval hx, Sem.run_bind, b2, Result.andThen_ok, Sem.run_pure]
    · refine ⟨some e, { w1 with heap := w1.heap.setIfInBounds r (.mapIter (some b) clock (sA.push e.2.2) clock) }, ⟨he, fun hin => by rw [(a1 e he).2 hin] at hc; cases hc⟩, ?_, ?_⟩
      · simp only [execOp, hfr.eval hx, Sem.run_bind, b2, Result.andThen_ok, Sem.run_pure]
      · refine s.turnRow (hA e.1) (fun m hm => by obtain ⟨_, _, rfl⟩ := hm; exact ⟨_, rfl⟩) q2 q4 q3 (by show w1.heap.setIfInBounds _ _ = _; rw [q1]) ⟨sA.push e.2.2, fun e' he' => ?_, fun k rs hk => ?_, rfl⟩
        · rw [contains_push, Bool.or_eq_true, a1 e' he', beq_iff_eq, List.mem_cons]
          constructor
          · rintro (h | h)
            · exact .inr h
            · exact .inl (by rw [map_inj (fun e : κ × Value × Nat => e.2.2) ho.stamps he' he h])
          · rintro (h | h)
            · exact .inr (by rw [map_inj (fun e : κ × Value × Nat => e.1) ho.keys he' he h])
            · exact .inl h
        · cases hk
          exact ⟨e, he, rfl, by simp⟩) (fun i hi => match i, hi with | none, hi => kend hi | some e, hi => kk e hi.1 hi.2)
theorem putKV_absent {k : κ} {v : Value} : ∀ {m : List (κ × Value)}, k ∉ m.map (·.1) → putKV m k v = m ++ [(k, v)]
  | [], _ => rfl
  | (k', u) :: r, h => by
    have h1 : ¬ k = k' := fun e => h (by simp [e])
    show (if k = k' then _ else _) = _
    rw [if_neg h1, putKV_absent (m := r) fun hk => h (by rw [List.map_cons]; exact List.mem_cons_of_mem _ hk)]
    rfl
theorem getKV_mem {k : κ} {v : Value} : ∀ {m : List (κ × Value)}, (m.map (·.1)).Nodup → (k, v) ∈ m → getKV m k = some v
  | [], _, h => by cases h
  | (k', u) :: r, hn, h => by
    have hn' := List.nodup_cons.1 hn
    show (if k = k' then _ else _) = _
    rcases List.mem_cons.1 h with e | e
    · cases e; rw [if_pos rfl]
    · rw [if_neg (fun c => hn'.1 (by rw [← c]; exact List.mem_map.2 ⟨_, e, rfl⟩))]
      exact getKV_mem hn'.2 e
def unsE (es : List (κ × Value × Nat)) (seen : List κ) : Nat := (es.filter fun e => !decide (e.1 ∈ seen)).length
theorem flt_le {α : Type} (p p' : α → Bool) (h : ∀ x, p' x = true → p x = true) : ∀ l : List α, (l.filter p').length ≤ (l.filter p).length
  | [] => Nat.le_refl _
  | a :: l => by
    have ih := flt_le p p' h l
    rw [List.filter_cons, List.filter_cons]
    cases h1 : p' a with
    | true => rw [if_pos rfl, if_pos (h a h1), List.length_cons, List.length_cons]; omega
    | false =>
      rw [if_neg (by decide)]
      split
      · rw [List.length_cons]; omega
      · exact ih
theorem flt_lt {α : Type} (p p' : α → Bool) (h : ∀ x, p' x = true → p x = true) {e : α} (h1 : p e = true) (h2 : p' e = false) : ∀ l : List α, e ∈ l → (l.filter p').length < (l.filter p).length
  | a :: l, he => by
    rw [List.filter_cons, List.filter_cons]
    rcases List.mem_cons.1 he with rfl | he
    · rw [if_neg (by rw [h2]; decide), if_pos h1, List.length_cons]
      have := flt_le p p' h l
      omega
    · have ih := flt_lt p p' h h1 h2 l he
      cases h3 : p' a with
      | true => rw [if_pos rfl, if_pos (h a h3), List.length_cons, List.length_cons]; omega
      | false =>
        rw [if_neg (by decide)]
        split
        · rw [List.length_cons]; omega
        · exact ih
theorem unsE_lt {es : List (κ × Value × Nat)} {seen : List κ} {e : κ × Value × Nat} (he : e ∈ es) (hn : e.1 ∉ seen) : unsE es (e.1 :: seen) < unsE es seen := by
  unfold unsE
  refine flt_lt _ _ (fun x hx => ?_) (e := e) ?_ ?_ es he
  · simp only [Bool.not_eq_true', decide_eq_false_iff_not, List.mem_cons, not_or] at hx ⊢
    exact hx.2
  · simpa using hn
  · simp
theorem unsE_del (es : List (κ × Value × Nat)) (seen : List κ) (k : κ) : unsE (delE k es) seen ≤ unsE es seen := by
  unfold unsE delE
  rw [List.filter_filter]
  exact flt_le _ _ (fun x hx => by simp only [Bool.and_eq_true] at hx; exact hx.1) es
end
end Go.Proofs.YtoigpgdmignaoaaGreatDoor

/- Layer 8: a request's tag, plain; fields of many cells. No condition. -/
namespace Go.Proofs.YtoigpgdmignaoaaGreatDoor
open Go
section
variable {P : Program} {base : World} {n : Nat} {L : Env} {f : Frag} {A V : List HP} {q : Post} {l rest : List Oper} {d : Nat} {ty : TypeId} {pos : String} {af : Array Edge} {gd : Option (Nat × Bool)}
end
end Go.Proofs.YtoigpgdmignaoaaGreatDoor

/- Layer 12, plain: what an act of the document's worlds says; a world behind some acts. No program in sight. -/
namespace Go.Proofs.YtoigpgdmignaoaaGreatDoor
open Go
theorem reqz_ok : Req.zero.Ok := ⟨⟨by decide, by decide⟩, by decide, by decide⟩
end Go.Proofs.YtoigpgdmignaoaaGreatDoor

/- Layer 12: a new lore; which vectors are above others; how many are known. -/
namespace Go.Proofs.YtoigpgdmignaoaaGreatDoor
open Go
theorem H.addNil {P : Program} {base : World} {n : Nat} {L : Env} {f : Frag} {A : List HP} {K : Kont} (p : HP) (hp : p nil0) (k : H P base n L f (p :: A) K) : H P base n L f A K :=
  H.imp (A' := p :: A) (fun h hh => ⟨nil0, h, (Dj.nil h).symm, (nil_un h).symm, hp, hh⟩) k
def fewZ (z : Int) : Prop := 3 ≤ z ∧ z ≤ 11 ∧ z.tmod 2 = 1
instance (z : Int) : Decidable (fewZ z) := by unfold fewZ; infer_instance
def lp0 : LP := ⟨fun _ => none, fun _ => 0, none, 0⟩
section
variable (f : Frag) (F : List HP)
theorem lfew_fn (z : Int) : Fn Tryz.prog 55 [.int .i64 z] f F (Ret (.bool (decide (fewZ z))) f F) := by
  by_cases h1 : 3 ≤ z
  · by_cases h2 : z ≤ 11
    · skip
      refine Fn.enter Tryz.func55 rfl Tryz.ntmps55 rfl (L := [(0, _)]) ⟨rfl, trivial⟩ fun base => ?_
      repeat (first | (refine H.rem (z := z.tmod 2) rfl rfl rfl (by decide) rfl rfl ?_) | ((first | apply H.move | apply H.assign); (iterate 3 exact rfl)) | (first | apply H.seq | apply H.region | apply H.nil | apply H.then_normal) | ((apply H.cmp); (iterate 5 exact rfl)) | (apply H.pickT; (iterate 4 exact rfl)) | (apply H.ret) | (apply H.gyes; (iterate 3 exact rfl); (assumption)))
      refine H.ret1 rfl rfl (fun _ h => h) ⟨?_, rfl, rfl⟩
      simp [fewZ, *]
    · skip
      refine Fn.enter Tryz.func55 rfl Tryz.ntmps55 rfl (L := [(0, _)]) ⟨rfl, trivial⟩ fun base => ?_
      repeat (first | ((first | apply H.move | apply H.assign); (iterate 3 exact rfl)) | (first | apply H.seq | apply H.region | apply H.nil | apply H.then_normal) | ((apply H.cmp); (iterate 5 exact rfl)) | (apply H.pass; (iterate 2 exact rfl)) | (apply H.pickT; (iterate 4 exact rfl)) | ((apply H.pickF); (iterate 4 exact rfl)) | (apply H.ret) | (apply H.gyes; (iterate 3 exact rfl); (assumption)) | (apply H.gno; (iterate 3 exact rfl); (assumption)))
      refine H.ret1 rfl rfl (fun _ h => h) ⟨?_, rfl, rfl⟩
      simp [fewZ, *]
  · skip
    refine Fn.enter Tryz.func55 rfl Tryz.ntmps55 rfl (L := [(0, _)]) ⟨rfl, trivial⟩ fun base => ?_
    repeat (first | ((first | apply H.move | apply H.assign); (iterate 3 exact rfl)) | (first | apply H.seq | apply H.region | apply H.nil | apply H.then_normal) | ((apply H.cmp); (iterate 5 exact rfl)) | (apply H.pass; (iterate 2 exact rfl)) | ((apply H.pickF); (iterate 4 exact rfl)) | (apply H.ret) | (apply H.gno; (iterate 3 exact rfl); (assumption)))
    refine H.ret1 rfl rfl (fun _ h => h) ⟨?_, rfl, rfl⟩
    simp [fewZ, *]
theorem lnew_fn {n : Nat} (h : fewZ (n : Int)) : Fn Tryz.prog 18 [.int .i64 (n : Int)] f F (RetE (fun lb : Nat => .tuple #[.pointer (some ⟨lb, 0, none⟩), .int .i64 0]) f (fun lb => loreH f lb n [] :: F)) := by
  have hf := fun G => lfew_fn f G (n : Int)
  rw [decide_eq_true h] at hf
  have hn : n ≤ 11 := by have := h.2.1; omega
  refine Fn.enter Tryz.func18 rfl Tryz.ntmps18 rfl (L := [(0, _)]) ⟨rfl, trivial⟩ fun base => ?_
  repeat (first | ((first | apply H.move | apply H.assign); (iterate 3 exact rfl)) | (first | apply H.seq | apply H.region | apply H.nil | apply H.then_normal))
  refine H.callR rfl rfl rfl (hf _) ?_
  refine H.not (b := true) (c := false) rfl rfl rfl rfl ?_
  repeat (first | (refine H.build (t := 120) (out := loreCells n [] lp0) rfl rfl rfl (by kernel_rfl) rfl ?_) | ((apply H.move); (iterate 3 exact rfl)) | (first | apply H.seq | apply H.region | apply H.nil | apply H.then_normal) | (apply H.cond_false; exact rfl) | (apply H.skip))
  refine H.box (ls := loreCells n [] lp0) rfl rfl rfl rfl fun lb => ?_
  repeat (first | ((apply H.assign); (iterate 3 exact rfl)) | (first | apply H.nil | apply H.then_normal) | (apply H.ret))
  refine H.addNil (ordH [] lp0) (slc_nil none _ 2) ?_
  refine H.addNil (fam (strH [] lp0) 11) (rngH_nil 11 fun j _ => slc_nil none _ 121) ?_
  refine H.front (.there _ (.there _ (.here _ _))) ?_
  refine H.imp (lore_fold lp0 (fl := f) ⟨fun x hx => (by cases hx), Nat.zero_le _, LOK.nil n, hn⟩) ?_
  exact H.ret2 rfl rfl rfl (fun _ h => h) ⟨lb, rfl, rfl, rfl⟩
set_option maxHeartbeats 800000 in
theorem above_fn (a b : Nat → Int) : Fn Tryz.prog 59 [.agg (v11 a).toArray, .agg (v11 b).toArray] f F (Ret (.bool (aboveB a b)) f F) := by
  refine Fn.enter Tryz.func59 rfl Tryz.ntmps59 rfl (L := [(0, _), (1, _)]) ⟨rfl, rfl, trivial⟩ fun base => ?_
  repeat ((first | apply H.seq | apply H.region))
  refine H.box (ls := v11 a) rfl rfl rfl rfl fun ab => ?_
  refine H.box (ls := v11 b) rfl rfl rfl rfl fun bb => ?_
  repeat (first | ((apply H.assign); (iterate 3 exact rfl)) | (first | apply H.seq | apply H.region | apply H.nil | apply H.then_normal))
  refine H.loadN (ls := v11 a) rfl rfl rfl (Rd.ofRow (.there _ (.here _ _ _))) rfl rfl ?_
  repeat (first | ((apply H.move); (iterate 3 exact rfl)) | (first | apply H.nil | apply H.then_normal) | (apply H.block))
  refine H.loop (ι := Nat) (fun i => [(8, .int .i64 (i : Int)), (7, .agg (v11 a).toArray), (3, .pointer (some ⟨bb, 0, none⟩))]) (fun _ => f) (fun _ => row bb 37 (v11 b) :: row ab 37 (v11 a) :: F) (fun i => i ≤ 11 ∧ ∀ j, j < i → a j ≤ b j) (fun i => 11 - i) 0 ⟨Nat.zero_le _, fun j hj => by omega⟩ ⟨rfl, rfl, rfl, trivial⟩ rfl rfl fun i hi => ?_
  obtain ⟨hi, hle⟩ : i ≤ 11 ∧ ∀ j, j < i → a j ≤ b j := hi
  by_cases hlt : i < 11
  · repeat (first | ((apply H.move); (iterate 3 exact rfl)) | (first | apply H.seq | apply H.region | apply H.nil | apply H.then_normal) | ((apply H.cmp); (iterate 5 exact rfl)) | (first | apply H.skip | apply H.block) | (apply H.cond_yes; exact rfl; (omega)))
    refine H.indexV (xs := v11 a) (i := i) rfl rfl rfl rfl hlt rfl (v11_get a hlt) rfl ?_
    repeat (first | ((first | apply H.move | apply H.assign); (iterate 3 exact rfl)) | (first | apply H.seq | apply H.region | apply H.nil | apply H.then_normal))
    refine H.index_array (i := i) rfl rfl rfl rfl hlt rfl ?_
    refine H.load1 rfl rfl rfl (.of (Rd.ofRow (.here _ _ _)) (by rw [Nat.mul_one]; exact v11_get b hlt)) rfl ?_
    by_cases hab : b i < a i
    · repeat (first | ((apply H.assign); (iterate 3 exact rfl)) | (first | apply H.seq | apply H.region | apply H.nil | apply H.then_normal) | ((apply H.cmp); (iterate 5 exact rfl)) | (first | apply H.ret | apply H.then_ret | apply H.in_ret | apply H.loop_ret) | (apply H.cond_yes; exact rfl; (assumption)))
      refine H.drop (.here _ _) ?_
      refine H.drop (.here _ _) ?_
      refine H.ret1 rfl rfl (fun _ h => h) ⟨?_, rfl, rfl⟩
      have : aboveB a b = true := by
        unfold aboveB
        rw [List.any_eq_true]
        exact ⟨i, List.mem_range.2 hlt, decide_eq_true hab⟩
      rw [this]
    · repeat (first | ((apply H.move); (iterate 3 exact rfl)) | (first | apply H.region | apply H.nil | apply H.then_normal) | ((apply H.cmp); (iterate 5 exact rfl)) | ((apply H.ar; (iterate 4 exact rfl)); (with_reducible apply wr_i64_n1; omega); exact rfl) | (first | apply H.skip | apply H.in_normal) | (apply H.cond_no; exact rfl; (assumption)))
      exact H.again (i + 1) ⟨by show i + 1 ≤ 11; omega, fun j hj => by
        by_cases e : j = i
        · rw [e]; omega
        · exact hle j (by omega)⟩ (by show 11 - (i + 1) < 11 - i; omega) ⟨rfl, rfl, rfl, trivial⟩ rfl rfl
  · repeat (first | ((apply H.assign); (iterate 3 exact rfl)) | (first | apply H.seq | apply H.region | apply H.nil | apply H.then_normal) | ((apply H.cmp); (iterate 5 exact rfl)) | (first | apply H.ret | apply H.then_exit | apply H.exit | apply H.in_hit | apply H.loop_exit) | (apply H.cond_no; exact rfl; (omega)))
    refine H.drop (.here _ _) ?_
    refine H.drop (.here _ _) ?_
    refine H.ret1 rfl rfl (fun _ h => h) ⟨?_, rfl, rfl⟩
    rw [aboveB_false.2 fun j hj => hle j (by omega)]
end
end Go.Proofs.YtoigpgdmignaoaaGreatDoor

/- Layer 8: bytes that a law is given. -/
namespace Go.Proofs.YtoigpgdmignaoaaGreatDoor
open Go Go.ChangeShapes Go.WideShapes Go.RowKit Go.Deep
end Go.Proofs.YtoigpgdmignaoaaGreatDoor

/- Layer 12: what a world of the document has in memory; the document's Few, Odd. -/
namespace Go.Proofs.YtoigpgdmignaoaaGreatDoor
open Go Go.ChangeShapes Go.WideShapes Go.RowKit Go.Deep
theorem v11_upd (d : Nat → Int) (v : Int) {k : Nat} (h : k < 11) : SetV (v11 d) k (.int .u64 v) (v11 (updF d k v)) := by
  have e : v11 (updF d k v) = (v11 d).set k (.int .u64 v) := by
    match k, h with
    | 0, _ => rfl
    | 1, _ => rfl
    | 2, _ => rfl
    | 3, _ => rfl
    | 4, _ => rfl
    | 5, _ => rfl
    | 6, _ => rfl
    | 7, _ => rfl
    | 8, _ => rfl
    | 9, _ => rfl
    | 10, _ => rfl
  rw [e]
  exact SetV.mk _ h
theorem v11_congr {a b : Nat → Int} (h : ∀ i, i < 11 → a i = b i) : v11 a = v11 b := v11_iff.2 h
section
variable (f : Frag) (F : List HP)
end
end Go.Proofs.YtoigpgdmignaoaaGreatDoor

/- Layer 12: how many are known; whether a message may be one of so many replicas. -/
namespace Go.Proofs.YtoigpgdmignaoaaGreatDoor
open Go
theorem updF_lt {d : Nat → Int} {i : Nat} : updF (fun j => if j < i then d j else 0) i (d i) = fun j => if j < i + 1 then d j else 0 := by
  funext j
  show (if j = i then d i else if j < i then d j else 0) = if j < i + 1 then d j else 0
  by_cases e : j = i
  · subst e; rw [if_pos rfl, if_pos (by omega)]
  · rw [if_neg e]
    by_cases h : j < i
    · rw [if_pos h, if_pos (by omega)]
    · rw [if_neg h, if_neg (by omega)]
theorem c11_rd {f : Frag} {A A' : List HP} {lb n : Nat} {l : List MV} {i : LP} (h : At A (row lb 120 (loreCells n l i)) A' (row lb 120 (loreCells n l i))) : Rd f A lb (0 + 1) (c11 (fun k => .slice (i.P k) (strmV l k).length (i.C k))) := by
  have h1 := Rd.ofRow (f := f) h
  unfold loreCells at h1
  exact h1.sub rfl
theorem knownS_len (l : List MV) (k : Nat) : knownS (strm (l.map MV.m)) k = ((strmV l k).length : Nat) := by
  show (((strm (l.map MV.m) k).length : Nat) : Int) = _
  rw [← strmV_map, List.length_map]
theorem strmV_le (l : List MV) (k : Nat) : (strmV l k).length ≤ l.length := List.length_filter_le _ _
section
variable (f : Frag) (F : List HP)
set_option maxHeartbeats 800000 in
theorem known_fn {fl : Frag} {lb n : Nat} {l : List MV} : Fn Tryz.prog 20 [.pointer (some ⟨lb, 0, none⟩)] f (loreH fl lb n l :: F) (Ret (.agg (v11 (knownS (strm (l.map MV.m)))).toArray) f (loreH fl lb n l :: F)) := by
  have hk := knownS_len l
  generalize knownS (strm (l.map MV.m)) = kn at hk ⊢
  have hle := strmV_le l
  refine Fn.unpack fun i hi => ?_
  have hll := hi.2.1
  refine Fn.enter Tryz.func20 rfl Tryz.ntmps20 rfl (L := [(0, _)]) ⟨rfl, trivial⟩ fun base => ?_
  repeat ((first | apply H.seq | apply H.region))
  refine H.alloc (ls := v11 fun _ => 0) rfl rfl rfl fun ob => ?_
  repeat (first | ((first | apply H.move | apply H.nilCheck); (iterate 3 exact rfl)) | (apply H.fieldAddr; (iterate 3 exact rfl); exact inferInstance; exact rfl) | (first | apply H.seq | apply H.region | apply H.nil | apply H.then_normal) | ((apply H.ptrNil); (iterate 5 exact rfl)) | (apply H.cond_true; exact rfl))
  refine H.loadN (ls := c11 (fun k => .slice (i.P k) (strmV l k).length (i.C k))) rfl rfl rfl (c11_rd (.there _ (.here _ _ _))) rfl rfl ?_
  repeat (first | ((apply H.move); (iterate 3 exact rfl)) | (first | apply H.nil | apply H.then_normal) | (apply H.block))
  refine H.loop (ι := Nat) (fun k => [(11, .int .i64 (k : Int)), (10, .agg (c11 (fun k => .slice (i.P k) (strmV l k).length (i.C k))).toArray), (2, .pointer (some ⟨ob, 0, none⟩))]) (fun _ => f)
    (fun k => row ob 37 (v11 fun j => if j < k then kn j else 0) :: row lb 120 (loreCells n l i) :: fam (strH l i) 11 :: ordH l i :: F) (fun k => k ≤ 11) (fun k => 11 - k) 0 (Nat.zero_le _) ⟨rfl, rfl, rfl, trivial⟩ rfl rfl fun k hk11 => ?_
  have hk11 : k ≤ 11 := hk11
  by_cases hlt : k < 11
  · have h1 := hle k
    have h2 := hk k
    repeat (first | ((apply H.move); (iterate 3 exact rfl)) | (first | apply H.seq | apply H.region | apply H.nil | apply H.then_normal) | ((apply H.cmp); (iterate 5 exact rfl)) | (first | apply H.skip | apply H.block) | (apply H.cond_yes; exact rfl; (omega)))
    refine H.indexV (i := k) rfl rfl rfl rfl hlt rfl (c11_get _ hlt) rfl ?_
    repeat (first | ((first | apply H.move | apply H.assign | apply H.len_slice); (iterate 3 exact rfl)) | (first | apply H.region | apply H.nil | apply H.then_normal) | ((apply H.conv_int; (iterate 2 exact rfl)); (with_reducible apply wr_u64; omega); exact rfl))
    refine H.index_array (i := k) rfl rfl rfl rfl hlt rfl ?_
    refine H.store1 (v := .int .u64 (kn k)) (ls' := v11 fun j => if j < k + 1 then kn j else 0) rfl rfl (by rw [h2]; rfl) rfl (.here _ _ _) (by rw [Nat.mul_one, Nat.zero_add, ← updF_lt]; exact v11_upd _ _ hlt) ?_
    repeat (first | ((apply H.move); (iterate 3 exact rfl)) | (first | apply H.region | apply H.nil | apply H.then_normal) | ((apply H.ar; (iterate 4 exact rfl)); (with_reducible apply wr_i64_n1; omega); exact rfl) | (apply H.in_normal))
    exact H.again (k + 1) (by show k + 1 ≤ 11; omega) (by show 11 - (k + 1) < 11 - k; omega) ⟨rfl, rfl, rfl, trivial⟩ rfl rfl
  · have e : k = 11 := by omega
    subst e
    have e : (v11 fun j => if j < 11 then kn j else 0) = v11 kn := v11_congr fun j hj => if_pos hj
    rw [e]
    repeat (first | (first | apply H.seq | apply H.region | apply H.nil | apply H.then_normal) | ((apply H.cmp); (iterate 5 exact rfl)) | (apply H.cond_false; exact rfl) | (first | apply H.then_exit | apply H.exit | apply H.in_hit | apply H.loop_exit))
    refine H.loadN (ls := v11 kn) rfl rfl rfl (Rd.ofRow (.here _ _ _)) rfl rfl ?_
    refine H.storeN (ls := v11 kn) (vs := v11 kn) (ls' := v11 kn) rfl rfl rfl (allOne_mem rfl) rfl rfl (Nat.le_refl 11) (.here _ _ _) ?_
    repeat (first | (first | apply H.nil | apply H.then_normal) | (apply H.ret))
    exact H.retD rfl rfl rfl (Rd.ofRow (.here _ _ _)) rfl (fun _ s => (s.drop (.here _ _)).imp (lore_fold i hi)) ⟨rfl, rfl, rfl⟩
/-! ### slices.ContainsFunc -/
def idxI {α : Type} (pr : α → Bool) (l : List α) : Int := match l.findIdx? pr with
  | some i => (i : Nat)
  | none => -1
theorem idxI_any {α : Type} (pr : α → Bool) (l : List α) : decide (0 ≤ idxI pr l) = l.any pr := by
  unfold idxI
  cases h : l.findIdx? pr with
  | none =>
    rw [List.findIdx?_eq_none_iff] at h
    have : l.any pr = false := by rw [List.any_eq_false]; intro x hx; simp [h x hx]
    rw [this]; decide
  | some i =>
    obtain ⟨hi, h1, _⟩ := List.findIdx?_eq_some_iff_getElem.1 h
    have : l.any pr = true := by rw [List.any_eq_true]; exact ⟨l[i], List.getElem_mem hi, h1⟩
    rw [this]; exact decide_eq_true (show (0 : Int) ≤ (i : Nat) by omega)
theorem idxI_at {α : Type} {pr : α → Bool} {l : List α} {i : Nat} {x : α} (h : l[i]? = some x) (hp : pr x = true) (hb : ∀ j y, j < i → l[j]? = some y → pr y = false) : idxI pr l = (i : Nat) := by
  have hi : i < l.length := by
    rcases Nat.lt_or_ge i l.length with h1 | h1
    · exact h1
    · rw [List.getElem?_eq_none h1] at h; cases h
  have hx : l[i] = x := by rw [List.getElem?_eq_getElem hi] at h; exact Option.some.inj h
  have : l.findIdx? pr = some i := List.findIdx?_eq_some_iff_getElem.2 ⟨hi, by rw [hx]; exact hp, fun j hj => by
    have := hb j l[j] hj (List.getElem?_eq_getElem (by omega))
    simp [this]⟩
  unfold idxI
  rw [this]
theorem idxI_none {α : Type} {pr : α → Bool} {l : List α} (hb : ∀ j y, j < l.length → l[j]? = some y → pr y = false) : idxI pr l = -1 := by
  have : l.findIdx? pr = none := by
    rw [List.findIdx?_eq_none_iff]
    intro x hx
    obtain ⟨j, hj⟩ := List.getElem?_of_mem hx
    rcases Nat.lt_or_ge j l.length with h1 | h1
    · exact hb j x h1 hj
    · rw [List.getElem?_eq_none h1] at hj; cases hj
  unfold idxI
  rw [this]
theorem idxQ_fn {p : Option Addr} {c : Nat} {q : List (Int × Int)} (hq : QAt f p q) (hl : q.length ≤ 1000000000) {fid : FuncId} {cs : List Value} [Fun Tryz.prog fid] (pr : Int × Int → Bool)
    (hc : ∀ x, x ∈ q → Fn Tryz.prog fid ([] ++ [.agg (pairV x).toArray] ++ cs) f F (Ret (.bool (pr x)) f F)) :
    Fn Tryz.prog 101 [.slice p q.length c, .func (.func fid) #[] cs.toArray] f F (Ret (.int .i64 (idxI pr q)) f F) := by
  refine Fn.enter Tryz.func101 rfl Tryz.ntmps101 rfl (L := [(0, _), (1, _)]) ⟨rfl, rfl, trivial⟩ fun base => ?_
  repeat (first | ((first | apply H.move | apply H.assign | apply H.len_slice); (iterate 3 exact rfl)) | (first | apply H.seq | apply H.region | apply H.nil | apply H.then_normal) | (apply H.block))
  refine H.loop (ι := Nat) (fun i => [(8, .int .i64 (i : Int)), (7, .int .i64 (q.length : Nat)), (0, .slice p q.length c), (1, .func (.func fid) #[] cs.toArray)]) (fun _ => f) (fun _ => F) (fun i => i ≤ q.length ∧ ∀ j y, j < i → q[j]? = some y → pr y = false) (fun i => q.length - i) 0 ⟨Nat.zero_le _, fun j y hj => by omega⟩ ⟨rfl, rfl, rfl, rfl, trivial⟩ rfl rfl fun i hi => ?_
  obtain ⟨hi, hb⟩ : i ≤ q.length ∧ ∀ j y, j < i → q[j]? = some y → pr y = false := hi
  by_cases hlt : i < q.length
  · have hx : q[i]? = some q[i] := List.getElem?_eq_getElem hlt
    generalize q[i] = x at hx
    have hxm := List.mem_of_getElem? hx
    obtain ⟨b, off, cs2, T, fr, rfl, hfb, hcs⟩ := hq i x hx
    have rd : ∀ A, Rd f A b (off + i * 2) (pairV x) := fun A => Rd.imm hfb hcs
    have hcx := hc x hxm
    repeat (first | ((first | apply H.move | apply H.assign); (iterate 3 exact rfl)) | (first | apply H.seq | apply H.region | apply H.nil | apply H.then_normal) | ((apply H.cmp); (iterate 5 exact rfl)) | (first | apply H.skip | apply H.block) | (apply H.cond_yes; exact rfl; (omega)))
    refine H.index_slice rfl rfl rfl rfl hlt rfl ?_
    refine H.loadN (ls := pairV x) rfl rfl rfl (rd _) rfl rfl ?_
    cases hp : pr x with
    | true =>
      rw [hp] at hcx
      refine H.callVR (fs := []) (cs := cs) rfl rfl rfl rfl hcx ?_
      repeat (first | ((first | apply H.move | apply H.assign); (iterate 3 exact rfl)) | (first | apply H.seq | apply H.region | apply H.nil | apply H.then_normal) | (apply H.cond_true; exact rfl) | (first | apply H.ret | apply H.then_ret | apply H.in_ret | apply H.loop_ret))
      refine H.ret1 rfl rfl (fun _ h => h) ⟨?_, rfl, rfl⟩
      rw [idxI_at hx hp hb]
    | false =>
      rw [hp] at hcx
      refine H.callVR (fs := []) (cs := cs) rfl rfl rfl rfl hcx ?_
      repeat (first | ((apply H.move); (iterate 3 exact rfl)) | (first | apply H.region | apply H.nil | apply H.then_normal) | ((apply H.ar; (iterate 4 exact rfl)); (with_reducible apply wr_i64_n1; omega); exact rfl) | (apply H.cond_false; exact rfl) | (first | apply H.skip | apply H.in_normal))
      refine H.again (i + 1) ⟨by show i + 1 ≤ q.length; omega, fun j y hj hy => ?_⟩ (by show q.length - (i + 1) < q.length - i; omega) ⟨rfl, rfl, rfl, rfl, trivial⟩ rfl rfl
      by_cases e : j = i
      · subst e; rw [hx] at hy; cases hy; exact hp
      · exact hb j y (by omega) hy
  · have e : i = q.length := by omega
    subst e
    repeat (first | ((apply H.assign); (iterate 3 exact rfl)) | (first | apply H.seq | apply H.region | apply H.nil | apply H.then_normal) | ((apply H.cmp); (iterate 5 exact rfl)) | (first | apply H.ret | apply H.then_exit | apply H.exit | apply H.in_hit | apply H.loop_exit) | (apply H.cond_no; exact rfl; (omega)))
    refine H.ret1 rfl rfl (fun _ h => h) ⟨?_, rfl, rfl⟩
    rw [idxI_none hb]
theorem hasQ_fn {p : Option Addr} {c : Nat} {q : List (Int × Int)} (hq : QAt f p q) (hl : q.length ≤ 1000000000) {fid : FuncId} {cs : List Value} [Fun Tryz.prog fid] (pr : Int × Int → Bool)
    (hc : ∀ x, x ∈ q → Fn Tryz.prog fid ([] ++ [.agg (pairV x).toArray] ++ cs) f F (Ret (.bool (pr x)) f F)) :
    Fn Tryz.prog 79 [.slice p q.length c, .func (.func fid) #[] cs.toArray] f F (Ret (.bool (q.any pr)) f F) := by
  have h1 := idxI_any pr q
  refine Fn.enter Tryz.func79 rfl Tryz.ntmps79 rfl (L := [(0, _), (1, _)]) ⟨rfl, rfl, trivial⟩ fun base => ?_
  repeat (first | ((first | apply H.move | apply H.assign); (iterate 3 exact rfl)) | (first | apply H.seq | apply H.region | apply H.nil | apply H.then_normal))
  refine H.callR rfl rfl rfl (idxQ_fn f F hq hl pr hc) ?_
  repeat (first | ((apply H.assign); (iterate 3 exact rfl)) | (first | apply H.nil | apply H.then_normal) | ((apply H.cmp); (iterate 5 exact rfl)) | (apply H.ret))
  refine H.ret1 rfl rfl (fun _ h => h) ⟨?_, rfl, rfl⟩
  rw [← h1]
theorem idxU_fn {p : Option Addr} {m c : Nat} {d : Nat → Int} (hr : ∀ i, i < m → ∃ b off, p = some ⟨b, off, none⟩ ∧ Rd1 f F b (off + i) (.int .u64 (d i))) (hm : m ≤ 1000000000) {fid : FuncId} {cs : List Value} [Fun Tryz.prog fid] (pr : Int → Bool)
    (hc : ∀ z, Fn Tryz.prog fid ([] ++ [.int .u64 z] ++ cs) f F (Ret (.bool (pr z)) f F)) :
    Fn Tryz.prog 102 [.slice p m c, .func (.func fid) #[] cs.toArray] f F (Ret (.int .i64 (idxI (fun i => pr (d i)) (List.range m))) f F) := by
  refine Fn.enter Tryz.func102 rfl Tryz.ntmps102 rfl (L := [(0, _), (1, _)]) ⟨rfl, rfl, trivial⟩ fun base => ?_
  repeat (first | ((first | apply H.move | apply H.assign | apply H.len_slice); (iterate 3 exact rfl)) | (first | apply H.seq | apply H.region | apply H.nil | apply H.then_normal) | (apply H.block))
  refine H.loop (ι := Nat) (fun i => [(8, .int .i64 (i : Int)), (7, .int .i64 (m : Nat)), (0, .slice p m c), (1, .func (.func fid) #[] cs.toArray)]) (fun _ => f) (fun _ => F) (fun i => i ≤ m ∧ ∀ j, j < i → pr (d j) = false) (fun i => m - i) 0 ⟨Nat.zero_le _, fun j hj => by omega⟩ ⟨rfl, rfl, rfl, rfl, trivial⟩ rfl rfl fun i hi => ?_
  obtain ⟨hi, hb⟩ : i ≤ m ∧ ∀ j, j < i → pr (d j) = false := hi
  by_cases hlt : i < m
  · obtain ⟨b, off, rfl, hrd⟩ := hr i hlt
    have hcx := hc (d i)
    repeat (first | ((first | apply H.move | apply H.assign); (iterate 3 exact rfl)) | (first | apply H.seq | apply H.region | apply H.nil | apply H.then_normal) | ((apply H.cmp); (iterate 5 exact rfl)) | (first | apply H.skip | apply H.block) | (apply H.cond_yes; exact rfl; (omega)))
    refine H.index1 (i := i) rfl rfl rfl rfl hlt rfl ?_
    refine H.load1 rfl rfl rfl hrd rfl ?_
    cases hp : pr (d i) with
    | true =>
      rw [hp] at hcx
      refine H.callVR (fs := []) (cs := cs) rfl rfl rfl rfl hcx ?_
      repeat (first | ((first | apply H.move | apply H.assign); (iterate 3 exact rfl)) | (first | apply H.seq | apply H.region | apply H.nil | apply H.then_normal) | (apply H.cond_true; exact rfl) | (first | apply H.ret | apply H.then_ret | apply H.in_ret | apply H.loop_ret))
      refine H.ret1 rfl rfl (fun _ h => h) ⟨?_, rfl, rfl⟩
      rw [idxI_at (i := i) (x := i) (by rw [List.getElem?_range hlt]) hp fun j y hj hy => by
        rw [List.getElem?_range (by omega)] at hy; cases hy; exact hb j hj]
    | false =>
      rw [hp] at hcx
      refine H.callVR (fs := []) (cs := cs) rfl rfl rfl rfl hcx ?_
      repeat (first | ((apply H.move); (iterate 3 exact rfl)) | (first | apply H.region | apply H.nil | apply H.then_normal) | ((apply H.ar; (iterate 4 exact rfl)); (with_reducible apply wr_i64_n1; omega); exact rfl) | (apply H.cond_false; exact rfl) | (first | apply H.skip | apply H.in_normal))
      refine H.again (i + 1) ⟨by show i + 1 ≤ m; omega, fun j hj => ?_⟩ (by show m - (i + 1) < m - i; omega) ⟨rfl, rfl, rfl, rfl, trivial⟩ rfl rfl
      by_cases e : j = i
      · subst e; exact hp
      · exact hb j (by omega)
  · have e : i = m := by omega
    subst e
    repeat (first | ((apply H.assign); (iterate 3 exact rfl)) | (first | apply H.seq | apply H.region | apply H.nil | apply H.then_normal) | ((apply H.cmp); (iterate 5 exact rfl)) | (first | apply H.ret | apply H.then_exit | apply H.exit | apply H.in_hit | apply H.loop_exit) | (apply H.cond_no; exact rfl; (omega)))
    refine H.ret1 rfl rfl (fun _ h => h) ⟨?_, rfl, rfl⟩
    rw [idxI_none fun j y hj hy => by
      have hj : j < i := by rw [List.length_range] at hj; exact hj
      rw [List.getElem?_range hj] at hy; cases hy; exact hb j hj]
theorem hasU_fn {p : Option Addr} {m c : Nat} {d : Nat → Int} (hr : ∀ i, i < m → ∃ b off, p = some ⟨b, off, none⟩ ∧ Rd1 f F b (off + i) (.int .u64 (d i))) (hm : m ≤ 1000000000) {fid : FuncId} {cs : List Value} [Fun Tryz.prog fid] (pr : Int → Bool)
    (hc : ∀ z, Fn Tryz.prog fid ([] ++ [.int .u64 z] ++ cs) f F (Ret (.bool (pr z)) f F)) :
    Fn Tryz.prog 81 [.slice p m c, .func (.func fid) #[] cs.toArray] f F (Ret (.bool ((List.range m).any fun i => pr (d i))) f F) := by
  have h1 := idxI_any (fun i => pr (d i)) (List.range m)
  refine Fn.enter Tryz.func81 rfl Tryz.ntmps81 rfl (L := [(0, _), (1, _)]) ⟨rfl, rfl, trivial⟩ fun base => ?_
  repeat (first | ((first | apply H.move | apply H.assign); (iterate 3 exact rfl)) | (first | apply H.seq | apply H.region | apply H.nil | apply H.then_normal))
  refine H.callR rfl rfl rfl (idxU_fn f F hr hm pr hc) ?_
  repeat (first | ((apply H.assign); (iterate 3 exact rfl)) | (first | apply H.nil | apply H.then_normal) | ((apply H.cmp); (iterate 5 exact rfl)) | (apply H.ret))
  refine H.ret1 rfl rfl (fun _ h => h) ⟨?_, rfl, rfl⟩
  rw [← h1]
theorem fits1_fn {lb pb n : Nat} {l : List MV} {i : LP} (x : Int × Int) : Fn Tryz.prog 80 ([] ++ [.agg (pairV x).toArray] ++ [.pointer (some ⟨pb, 0, none⟩)]) f (row pb 27 [.pointer (some ⟨lb, 0, none⟩)] :: row lb 120 (loreCells n l i) :: F)
    (Ret (.bool (decide ((n : Int) < x.1))) f (row pb 27 [.pointer (some ⟨lb, 0, none⟩)] :: row lb 120 (loreCells n l i) :: F)) := by
  refine Fn.enter Tryz.func80 rfl Tryz.ntmps80 rfl (L := [(0, _), (1, _)]) ⟨rfl, rfl, trivial⟩ fun base => ?_
  repeat ((first | apply H.seq | apply H.region))
  refine H.box (ls := pairV x) rfl rfl rfl rfl fun qb => ?_
  repeat (first | ((apply H.assign); (iterate 3 exact rfl)) | (first | apply H.seq | apply H.nil | apply H.then_normal))
  refine H.drawQ (by kernel_rfl) (by decide +kernel) (by repeat (first | exact blind_fn | refine blind_seq ?_ | refine blind_block ?_ | refine blind_loop ?_)) ?_
  repeat (first | ((first | apply HQ.assign | apply HQ.nilCheck); (iterate 3 exact rfl)) | (apply HQ.fieldAddr; (iterate 3 exact rfl); exact inferInstance; exact rfl) | (apply HQ.load1; (iterate 3 exact rfl); apply Rd1.ofRow; (repeat (first | exact .here _ _ _ | apply At.there)); (iterate 2 exact rfl)) | ((apply HQ.done0); exact rfl) | ((apply HQ.cmp); (iterate 5 exact rfl)))
  repeat (first | (apply H.then_normal) | (apply H.ret))
  refine H.drop (.here _ _) ?_
  exact H.ret1 rfl rfl (fun _ h => h) ⟨rfl, rfl, rfl⟩
theorem fits2_fn (z : Int) : Fn Tryz.prog 82 ([] ++ [.int .u64 z] ++ []) f F (Ret (.bool (decide (0 < z))) f F) := by
  refine Fn.enter Tryz.func82 rfl Tryz.ntmps82 rfl (L := [(0, _)]) ⟨rfl, trivial⟩ fun base => ?_
  repeat (first | ((first | apply H.move | apply H.assign); (iterate 3 exact rfl)) | (first | apply H.seq | apply H.region | apply H.nil | apply H.then_normal) | ((apply H.cmp); (iterate 5 exact rfl)) | (apply H.ret))
  exact H.ret1 rfl rfl (fun _ h => h) ⟨rfl, rfl, rfl⟩
end
end Go.Proofs.YtoigpgdmignaoaaGreatDoor

/- Layer 12: whether a message may be one of so many replicas; why a message is not taken. Condition: the table of the standard stands in the fragment. -/
namespace Go.Proofs.YtoigpgdmignaoaaGreatDoor
open Go
theorem any_all {α : Type} (l : List α) (p : α → Bool) (q : α → Bool) (h : ∀ x, q x = !p x) : l.all q = !l.any p := by
  induction l with
  | nil => rfl
  | cons a l ih => rw [List.all_cons, List.any_cons, ih, h, Bool.not_or]
theorem deps_any {n : Nat} (hn : n ≤ 11) (d : Nat → Int) : ((List.range 11).all fun i => decide (i < n) || decide (d i ≤ 0)) = !(List.range (11 - n)).any fun i => decide (0 < d (n + i)) := by
  cases h : (List.range (11 - n)).any fun i => decide (0 < d (n + i)) with
  | true =>
    rw [List.any_eq_true] at h
    obtain ⟨i, hi, h⟩ := h
    have hi := List.mem_range.1 hi
    rw [Bool.not_true, List.all_eq_false]
    refine ⟨n + i, List.mem_range.2 (by omega), ?_⟩
    have h := of_decide_eq_true h
    rw [decide_eq_false (by omega), decide_eq_false (by omega)]; decide
  | false =>
    rw [List.any_eq_false] at h
    rw [Bool.not_false, List.all_eq_true]
    intro i hi
    have hi := List.mem_range.1 hi
    rw [Bool.or_eq_true, decide_eq_true_eq, decide_eq_true_eq]
    by_cases hlt : i < n
    · exact .inl hlt
    · have := h (i - n) (List.mem_range.2 (by omega))
      rw [decide_eq_true_eq, show n + (i - n) = i by omega] at this
      exact .inr (by omega)
theorem fitsB_q {n : Nat} (hn : n ≤ 11) {m : Msg} (h1 : m.may = true) (h2 : m.origin ≤ (n : Int)) : fitsB n m = (!(m.body.q.any fun p => decide ((n : Int) < p.1)) && !(List.range (11 - n)).any fun i => decide (0 < m.deps (n + i))) := by
  unfold fitsB
  rw [h1, decide_eq_true h2, deps_any hn, any_all m.body.q (fun p => decide ((n : Int) < p.1)) (fun p => decide (p.1 ≤ (n : Int))) fun p => by
    by_cases h : (n : Int) < p.1
    · rw [decide_eq_true h, decide_eq_false (by omega)]; rfl
    · rw [decide_eq_false h, decide_eq_true (by omega)]; rfl]
  rfl
section
variable (f : Frag) (F : List HP)
set_option maxHeartbeats 1600000 in
theorem fits_fn {lb n : Nat} {l : List MV} {i : LP} (hn : n ≤ 11) {x : MV} (hx : x.Good f) : Fn Tryz.prog 57 [.pointer (some ⟨lb, 0, none⟩), .agg x.vals.toArray] f (row lb 120 (loreCells n l i) :: F)
    (Ret (.bool (fitsB n x.m)) f (row lb 120 (loreCells n l i) :: F)) := by
  have hmay := fun G => mmay_fn f G hx
  by_cases hm : x.m.may = true
  · rw [hm] at hmay
    by_cases ho : x.m.origin ≤ (n : Int)
    · rw [fitsB_q hn hm ho]
      refine Fn.enter Tryz.func57 rfl Tryz.ntmps57 rfl (L := [(0, _), (1, _)]) ⟨rfl, rfl, trivial⟩ fun base => ?_
      repeat ((first | apply H.seq | apply H.region))
      refine H.box (ls := [.pointer (some ⟨lb, 0, none⟩)]) rfl rfl rfl rfl fun pb => ?_
      refine H.box (ls := x.vals) rfl rfl rfl rfl fun mb => ?_
      repeat (first | ((apply H.assign); (iterate 3 exact rfl)) | (first | apply H.seq | apply H.nil | apply H.then_normal))
      refine H.drawB (by kernel_rfl) (by decide +kernel) (by repeat (first | exact blind_fn | refine blind_seq ?_ | refine blind_block ?_ | refine blind_loop ?_)) (S := [_, _, _]) rfl ?_
      refine HB.quiet [(0, false)] 11 (by kernel_rfl) ?_
      refine HQ.loadN (ls := x.vals) rfl rfl rfl (Rd.ofRow (.here _ _ _)) rfl rfl ?_
      refine HQ.more rfl ?_
      refine HB.ev1 (i := 1) (by kernel_rfl) rfl ?_
      refine H.callR rfl rfl rfl (hmay _) ?_
      repeat ((apply H.nil))
      refine H.on0 rfl ?_
      refine HB.quiet [(2, false), (3, false), (4, false), (5, false), (6, false), (7, false), (8, false), (9, false), (10, false), (11, false)] 0 (by kernel_rfl) ?_
      repeat (first | ((first | apply HQ.move | apply HQ.nilCheck); (iterate 3 exact rfl)) | (apply HQ.fieldAddr; (iterate 3 exact rfl); exact inferInstance; exact rfl) | (apply HQ.load1; (iterate 3 exact rfl); apply Rd1.ofRow; (repeat (first | exact .here _ _ _ | apply At.there)); (iterate 2 exact rfl)) | ((apply HQ.cmp); (iterate 5 exact rfl)) | ((first | apply HQ.pickF | apply HQ.not); (iterate 4 exact rfl)))
      refine HQ.more rfl ?_
      refine HB.done (by kernel_rfl) ?_
      repeat (first | (apply H.fieldAddr; (iterate 3 exact rfl); exact inferInstance; exact rfl) | (apply H.load1; (iterate 3 exact rfl); apply Rd1.ofRow; (repeat (exact .here _ _ _)); (iterate 2 exact rfl)) | (first | apply H.seq | apply H.region | apply H.then_normal) | ((apply H.makeFunc); (iterate 4 exact rfl)) | (apply H.skip) | (apply H.cond_no; exact rfl; (omega)))
      refine H.front (x := row lb _ _) (by repeat (first | exact .here _ _ | apply Pull.there)) ?_
      refine H.front (x := row pb _ _) (by repeat (first | exact .here _ _ | apply Pull.there)) ?_
      have hq : x.m.body.q.length ≤ 1000000000 := by have := hx.2.1; omega
      refine H.callR rfl rfl rfl (hasQ_fn f _ (c := x.qc) hx.1 hq (fun p => decide ((n : Int) < p.1)) fun p _ => fits1_fn f _ p) ?_
      cases hany : x.m.body.q.any fun p => decide ((n : Int) < p.1) with
      | true =>
        refine H.not (b := true) (c := false) rfl rfl rfl rfl ?_
        repeat (first | ((first | apply H.move | apply H.assign | apply H.nilCheck); (iterate 3 exact rfl)) | (first | apply H.nil | apply H.then_normal) | (apply H.pass; (iterate 2 exact rfl)) | ((apply H.pickF); (iterate 4 exact rfl)) | (apply H.ret))
        refine H.drop (.here _ _) ?_
        refine H.drop (x := row mb _ _) (by repeat (first | exact .here _ _ | apply Pull.there)) ?_
        exact H.ret1 rfl rfl (fun _ h => h) ⟨rfl, rfl, rfl⟩
      | false =>
        refine H.not (b := false) (c := true) rfl rfl rfl rfl ?_
        repeat (first | ((first | apply H.move | apply H.nilCheck); (iterate 3 exact rfl)) | (apply H.fieldAddr; (iterate 3 exact rfl); exact inferInstance; exact rfl) | (apply H.load1; (iterate 3 exact rfl); apply Rd1.ofRow; (repeat (first | exact .here _ _ _ | apply At.there)); (iterate 2 exact rfl)))
        refine H.sliceArr (lo := some _) (hi := none) (mx := none) (lv := n) (hv := 11) (mv := 11) rfl rfl ⟨_, _, rfl, rfl⟩ rfl rfl (fun h => by cases h) hn (by decide) (by decide) rfl ?_
        skip
        refine H.callR rfl rfl rfl (hasU_fn f _ (p := slP (some ⟨mb, 2, none⟩) n 11 1) (m := 11 - n) (c := 11 - n) (d := fun i => x.m.deps (n + i)) (fun i hi => ⟨mb, 2 + n, by unfold slP; rw [if_neg (by omega)]; show some (Addr.add ⟨mb, 2, none⟩ (n * 1)) = _; rw [add_none, Nat.mul_one], ?_⟩) (by omega) (fun z => decide (0 < z)) fun z => fits2_fn f _ z) ?_
        · rw [show 2 + n + i = 2 + (n + i) by omega]
          exact Rd1.of (off := 2) (msg_deps (m := x.m) (q := x.qp) (qc := x.qc) (.there _ (.there _ (.here _ _ _)))) (v11_get x.m.deps (by omega))
        generalize (List.range (11 - n)).any (fun i => decide (0 < x.m.deps (n + i))) = b
        refine H.not (b := b) (c := !b) rfl rfl rfl rfl ?_
        repeat (first | ((apply H.assign); (iterate 3 exact rfl)) | (first | apply H.nil | apply H.then_normal) | (apply H.pickT; (iterate 4 exact rfl)) | (apply H.ret))
        refine H.drop (.here _ _) ?_
        refine H.drop (x := row mb _ _) (by repeat (first | exact .here _ _ | apply Pull.there)) ?_
        exact H.ret1 rfl rfl (fun _ h => h) ⟨rfl, rfl, rfl⟩
    · have e : fitsB n x.m = false := by unfold fitsB; rw [decide_eq_false ho]; simp
      rw [e]
      refine Fn.enter Tryz.func57 rfl Tryz.ntmps57 rfl (L := [(0, _), (1, _)]) ⟨rfl, rfl, trivial⟩ fun base => ?_
      repeat ((first | apply H.seq | apply H.region))
      refine H.box (ls := [.pointer (some ⟨lb, 0, none⟩)]) rfl rfl rfl rfl fun pb => ?_
      refine H.box (ls := x.vals) rfl rfl rfl rfl fun mb => ?_
      repeat (first | ((apply H.assign); (iterate 3 exact rfl)) | (first | apply H.seq | apply H.nil | apply H.then_normal))
      refine H.drawB (by kernel_rfl) (by decide +kernel) (by repeat (first | exact blind_fn | refine blind_seq ?_ | refine blind_block ?_ | refine blind_loop ?_)) (S := [_, _, _]) rfl ?_
      refine HB.quiet [(0, false)] 11 (by kernel_rfl) ?_
      refine HQ.loadN (ls := x.vals) rfl rfl rfl (Rd.ofRow (.here _ _ _)) rfl rfl ?_
      refine HQ.more rfl ?_
      refine HB.ev1 (i := 1) (by kernel_rfl) rfl ?_
      refine H.callR rfl rfl rfl (hmay _) ?_
      repeat ((apply H.nil))
      refine H.on0 rfl ?_
      refine HB.quiet [(2, false), (3, false), (4, false), (5, false), (6, false), (7, false), (8, false), (9, false), (10, false), (11, false)] 0 (by kernel_rfl) ?_
      repeat (first | ((first | apply HQ.move | apply HQ.nilCheck); (iterate 3 exact rfl)) | (apply HQ.fieldAddr; (iterate 3 exact rfl); exact inferInstance; exact rfl) | (apply HQ.load1; (iterate 3 exact rfl); apply Rd1.ofRow; (repeat (first | exact .here _ _ _ | apply At.there)); (iterate 2 exact rfl)) | ((apply HQ.cmp); (iterate 5 exact rfl)) | ((first | apply HQ.pickF | apply HQ.not); (iterate 4 exact rfl)))
      refine HQ.more rfl ?_
      refine HB.done (by kernel_rfl) ?_
      repeat (first | ((apply H.assign); (iterate 3 exact rfl)) | (first | apply H.seq | apply H.region | apply H.nil | apply H.then_normal) | (first | apply H.ret | apply H.then_ret) | (apply H.cond_yes; exact rfl; (omega)))
      refine H.drop (.here _ _) ?_
      refine H.drop (.here _ _) ?_
      exact H.ret1 rfl rfl (fun _ h => h) ⟨rfl, rfl, rfl⟩
  · have hm : x.m.may = false := Bool.eq_false_iff.2 hm
    have e : fitsB n x.m = false := by unfold fitsB; rw [hm]; rfl
    rw [hm] at hmay
    rw [e]
    refine Fn.enter Tryz.func57 rfl Tryz.ntmps57 rfl (L := [(0, _), (1, _)]) ⟨rfl, rfl, trivial⟩ fun base => ?_
    repeat ((first | apply H.seq | apply H.region))
    refine H.box (ls := [.pointer (some ⟨lb, 0, none⟩)]) rfl rfl rfl rfl fun pb => ?_
    refine H.box (ls := x.vals) rfl rfl rfl rfl fun mb => ?_
    repeat (first | ((apply H.assign); (iterate 3 exact rfl)) | (first | apply H.seq | apply H.nil | apply H.then_normal))
    refine H.drawB (by kernel_rfl) (by decide +kernel) (by repeat (first | exact blind_fn | refine blind_seq ?_ | refine blind_block ?_ | refine blind_loop ?_)) (S := [_, _, _]) rfl ?_
    refine HB.quiet [(0, false)] 11 (by kernel_rfl) ?_
    refine HQ.loadN (ls := x.vals) rfl rfl rfl (Rd.ofRow (.here _ _ _)) rfl rfl ?_
    refine HQ.more rfl ?_
    refine HB.ev1 (i := 1) (by kernel_rfl) rfl ?_
    refine H.callR rfl rfl rfl (hmay _) ?_
    repeat ((apply H.nil))
    refine H.on0 rfl ?_
    refine HB.quiet [(2, false), (3, false), (4, false), (5, false), (6, false), (7, false), (8, false), (9, false), (10, false), (11, false)] 0 (by kernel_rfl) ?_
    repeat (first | ((first | apply HQ.move | apply HQ.nilCheck); (iterate 3 exact rfl)) | (apply HQ.pass; (iterate 2 exact rfl)) | (apply HQ.pickT; (iterate 4 exact rfl)) | ((apply HQ.not); (iterate 4 exact rfl)))
    refine HQ.more rfl ?_
    refine HB.done (by kernel_rfl) ?_
    repeat (first | ((apply H.assign); (iterate 3 exact rfl)) | (first | apply H.seq | apply H.region | apply H.nil | apply H.then_normal) | (apply H.cond_true; exact rfl) | (first | apply H.ret | apply H.then_ret))
    refine H.drop (.here _ _) ?_
    refine H.drop (.here _ _) ?_
    exact H.ret1 rfl rfl (fun _ h => h) ⟨rfl, rfl, rfl⟩
end
end Go.Proofs.YtoigpgdmignaoaaGreatDoor

/- Layer 12: why a message is not taken. Condition: the table of the standard stands in the fragment. -/
namespace Go.Proofs.YtoigpgdmignaoaaGreatDoor
open Go
theorem strm_lenV (l : List MV) (o : Nat) : (strm (l.map MV.m) o).length = (strmV l o).length := by rw [← strmV_map, List.length_map]
theorem slc_deps {f : Frag} {A A' : List HP} {b n c : Nat} {T : TypeId} {xs : List MV} (h : At A (slc (some ⟨b, 0, none⟩) n c T 121 (xs.flatMap MV.vals)) A' (slc (some ⟨b, 0, none⟩) n c T 121 (xs.flatMap MV.vals))) {k : Nat} {y : MV} (hy : xs[k]? = some y) : Rd f A b (k * 121 + 2) (v11 y.m.deps) := by
  have h1 := Rd.slcElem (f := f) MV.len (by decide) h hy
  have e : y.vals = [.int .i64 y.m.origin, .int .u64 y.m.number] ++ v11 y.m.deps ++ (y.m.body.vals y.qp y.qc ++ b32 y.m.tag) := by unfold MV.vals Msg.vals; simp only [List.append_assoc]
  rw [e] at h1
  exact h1.sub rfl
theorem fits_at {n : Nat} {m : Msg} (h : fitsB n m = true) (hn : n ≤ 11) : ∃ o : Nat, orgI m = o ∧ m.origin - 1 = (o : Nat) ∧ o < n ∧ o < 11 ∧ 1 ≤ m.origin ∧ m.origin ≤ 11 := by
  have h1 := fits_org h
  refine ⟨(m.origin - 1).toNat, rfl, ?_⟩
  omega
section
variable (f : Frag) (F : List HP)
set_option maxHeartbeats 3200000 in
theorem lcheck_fn (htab : TabAt f) {fl : Frag} {lb n : Nat} {l : List MV} {x : MV} (hx : x.Good f) : Fn Tryz.prog 23 [.pointer (some ⟨lb, 0, none⟩), .agg x.vals.toArray] f (loreH fl lb n l :: F)
    (Ret (.int .i64 (chk n (strm (l.map MV.m)) x.m)) f (loreH fl lb n l :: F)) := by
  refine Fn.unpack fun i hi => ?_
  have hn := hi.2.2.2
  have hfits : ∀ {G}, Fn Tryz.prog 57 [.pointer (some ⟨lb, 0, none⟩), .agg x.vals.toArray] f (row lb 120 (loreCells n l i) :: G) (Ret (.bool (fitsB n x.m)) f (row lb 120 (loreCells n l i) :: G)) := fun {G} => fits_fn f G hn hx
  have hright : ∀ {G}, Fn Tryz.prog 58 [.agg x.vals.toArray] f G (Ret (.bool x.m.right) f G) := fun {G} => mright_fn f G htab hx
  cases h1 : fitsB n x.m with
  | false =>
    rw [h1] at hfits
    refine Fn.enter Tryz.func23 rfl Tryz.ntmps23 rfl (L := [(0, _), (1, _)]) ⟨rfl, rfl, trivial⟩ fun base => ?_
    repeat ((first | apply H.seq | apply H.region))
    refine H.box (ls := x.vals) rfl rfl rfl rfl fun mb => ?_
    repeat (first | ((first | apply H.move | apply H.assign); (iterate 3 exact rfl)) | (first | apply H.seq | apply H.region | apply H.nil | apply H.then_normal) | ((apply H.ptrNil); (iterate 5 exact rfl)) | (apply H.cond_false; exact rfl) | (apply H.block))
    refine H.loadN (ls := x.vals) rfl rfl rfl (Rd.ofRow (.here _ _ _)) rfl rfl ?_
    refine H.front (x := row lb _ _) (by repeat (first | exact .here _ _ | apply Pull.there)) ?_
    refine H.callR rfl rfl rfl hfits ?_
    refine H.not (b := _) (c := _) rfl rfl rfl rfl ?_
    repeat (first | ((apply H.assign); (iterate 3 exact rfl)) | (first | apply H.seq | apply H.region | apply H.nil | apply H.then_normal) | (apply H.cond_true; exact rfl) | (first | apply H.ret | apply H.then_ret | apply H.in_ret))
    refine H.front (x := ordH l i) (by repeat (first | exact .here _ _ | apply Pull.there)) ?_
    refine H.front (x := fam (strH l i) 11) (by repeat (first | exact .here _ _ | apply Pull.there)) ?_
    refine H.front (x := row lb _ _) (by repeat (first | exact .here _ _ | apply Pull.there)) ?_
    refine H.imp (lore_fold i hi) ?_
    refine H.drop (x := row mb _ _) (by repeat (first | exact .here _ _ | apply Pull.there)) ?_
    refine H.ret1 rfl rfl (fun _ h => h) ⟨?_, rfl, rfl⟩
    unfold chk
    rw [if_pos h1]
  | true =>
    obtain ⟨o, hoo, hoz, hon, ho11, ho1, ho2⟩ := fits_at h1 hn
    rw [h1] at hfits
    cases h2 : x.m.right with
    | false =>
      rw [h2] at hright
      refine Fn.enter Tryz.func23 rfl Tryz.ntmps23 rfl (L := [(0, _), (1, _)]) ⟨rfl, rfl, trivial⟩ fun base => ?_
      repeat ((first | apply H.seq | apply H.region))
      refine H.box (ls := x.vals) rfl rfl rfl rfl fun mb => ?_
      repeat (first | ((first | apply H.move | apply H.assign); (iterate 3 exact rfl)) | (first | apply H.seq | apply H.region | apply H.nil | apply H.then_normal) | ((apply H.ptrNil); (iterate 5 exact rfl)) | (apply H.cond_false; exact rfl) | (apply H.block))
      refine H.loadN (ls := x.vals) rfl rfl rfl (Rd.ofRow (.here _ _ _)) rfl rfl ?_
      refine H.front (x := row lb _ _) (by repeat (first | exact .here _ _ | apply Pull.there)) ?_
      refine H.callR rfl rfl rfl hfits ?_
      refine H.not (b := _) (c := _) rfl rfl rfl rfl ?_
      repeat (first | ((apply H.assign); (iterate 3 exact rfl)) | (first | apply H.seq | apply H.region | apply H.nil | apply H.then_normal) | (apply H.cond_false; exact rfl))
      refine H.loadN (ls := x.vals) rfl rfl rfl (Rd.ofRow (.there _ (.here _ _ _))) rfl rfl ?_
      refine H.callR rfl rfl rfl hright ?_
      refine H.not (b := _) (c := _) rfl rfl rfl rfl ?_
      repeat (first | ((apply H.assign); (iterate 3 exact rfl)) | (first | apply H.seq | apply H.region | apply H.nil | apply H.then_normal) | (apply H.cond_true; exact rfl) | (first | apply H.ret | apply H.then_ret | apply H.in_ret))
      refine H.front (x := ordH l i) (by repeat (first | exact .here _ _ | apply Pull.there)) ?_
      refine H.front (x := fam (strH l i) 11) (by repeat (first | exact .here _ _ | apply Pull.there)) ?_
      refine H.front (x := row lb _ _) (by repeat (first | exact .here _ _ | apply Pull.there)) ?_
      refine H.imp (lore_fold i hi) ?_
      refine H.drop (x := row mb _ _) (by repeat (first | exact .here _ _ | apply Pull.there)) ?_
      refine H.ret1 rfl rfl (fun _ h => h) ⟨?_, rfl, rfl⟩
      unfold chk
      rw [if_neg (by rw [h1]; decide), if_pos h2]
    | true =>
      rw [h2] at hright
      have hsl := strmV_le l o
      have hll := hi.2.1
      have hstr := loreCells_str n l i ho11
      have hlen := strm_lenV l o
      have hchk : chk n (strm (l.map MV.m)) x.m = if x.m.number ≤ ((strmV l o).length : Nat) then 13 else
          if x.m.number = (((strmV l o).length + 1 : Nat) : Int) ∧ 0 < (strmV l o).length ∧ aboveB (lastD (strm (l.map MV.m) o)) x.m.deps = true then 1 else
          if (((strmV l o).length + 1 : Nat) : Int) < x.m.number ∨ aboveB x.m.deps (knownS (strm (l.map MV.m))) = true then 12 else 0 := by
        unfold chk
        rw [if_neg (by rw [h1]; decide), if_neg (by rw [h2]; decide), hoo, hlen]
      by_cases h3 : x.m.number ≤ ((strmV l o).length : Nat)
      · generalize hs : (strmV l o).length = s at *
        refine Fn.enter Tryz.func23 rfl Tryz.ntmps23 rfl (L := [(0, _), (1, _)]) ⟨rfl, rfl, trivial⟩ fun base => ?_
        repeat ((first | apply H.seq | apply H.region))
        refine H.box (ls := x.vals) rfl rfl rfl rfl fun mb => ?_
        repeat (first | ((first | apply H.move | apply H.assign); (iterate 3 exact rfl)) | (first | apply H.seq | apply H.region | apply H.nil | apply H.then_normal) | ((apply H.ptrNil); (iterate 5 exact rfl)) | (apply H.cond_false; exact rfl) | (apply H.block))
        refine H.loadN (ls := x.vals) rfl rfl rfl (Rd.ofRow (.here _ _ _)) rfl rfl ?_
        refine H.front (x := row lb _ _) (by repeat (first | exact .here _ _ | apply Pull.there)) ?_
        refine H.callR rfl rfl rfl hfits ?_
        refine H.not (b := _) (c := _) rfl rfl rfl rfl ?_
        repeat (first | ((apply H.assign); (iterate 3 exact rfl)) | (first | apply H.seq | apply H.region | apply H.nil | apply H.then_normal) | (apply H.cond_false; exact rfl))
        refine H.loadN (ls := x.vals) rfl rfl rfl (Rd.ofRow (.there _ (.here _ _ _))) rfl rfl ?_
        refine H.callR rfl rfl rfl hright ?_
        refine H.not (b := _) (c := _) rfl rfl rfl rfl ?_
        repeat (first | ((apply H.assign); (iterate 3 exact rfl)) | (first | apply H.seq | apply H.nil | apply H.then_normal) | (apply H.cond_false; exact rfl) | (first | apply H.skip | apply H.in_normal))
        refine H.drawQ (by kernel_rfl) (by decide +kernel) (by repeat (first | exact blind_fn | refine blind_seq ?_ | refine blind_block ?_ | refine blind_loop ?_)) ?_
        repeat (first | ((first | apply HQ.move | apply HQ.nilCheck); (iterate 3 exact rfl)) | (apply HQ.fieldAddr; (iterate 3 exact rfl); exact inferInstance; exact rfl) | (apply HQ.load1; (iterate 3 exact rfl); apply Rd1.ofRow; (repeat (first | exact .here _ _ _ | apply At.there)); (iterate 2 exact rfl)) | ((apply HQ.ar; (iterate 4 exact rfl)); (with_reducible apply wr_i64; omega); exact rfl))
        refine HQ.index_array (i := o) rfl rfl rfl hoz ho11 rfl ?_
        refine HQ.load1 rfl rfl rfl (Rd1.at0 (Rd.ofRow (by repeat (first | exact .here _ _ _ | apply At.there))) (by rw [Nat.mul_one, Nat.zero_add]; exact hstr)) rfl ?_
        repeat (first | ((apply HQ.assign); (iterate 3 exact rfl)) | ((apply HQ.done0); exact rfl))
        repeat (first | ((first | apply H.move | apply H.assign | apply H.len_slice); (iterate 3 exact rfl)) | (apply H.fieldAddr; (iterate 3 exact rfl); exact inferInstance; exact rfl) | (apply H.load1; (iterate 3 exact rfl); apply Rd1.ofRow; (repeat (first | exact .here _ _ _ | apply At.there)); (iterate 2 exact rfl)) | (first | apply H.seq | apply H.region | apply H.nil | apply H.then_normal) | ((apply H.cmp); (iterate 5 exact rfl)) | ((apply H.conv_int; (iterate 2 exact rfl)); (with_reducible apply wr_u64; omega); exact rfl) | (first | apply H.ret | apply H.then_ret | apply H.block | apply H.in_ret) | (apply H.cond_yes; exact rfl; (assumption)))
        refine H.front (x := ordH l i) (by repeat (first | exact .here _ _ | apply Pull.there)) ?_
        refine H.front (x := fam (strH l i) 11) (by repeat (first | exact .here _ _ | apply Pull.there)) ?_
        refine H.front (x := row lb _ _) (by repeat (first | exact .here _ _ | apply Pull.there)) ?_
        refine H.imp (lore_fold i hi) ?_
        refine H.drop (x := row mb _ _) (by repeat (first | exact .here _ _ | apply Pull.there)) ?_
        refine H.ret1 rfl rfl (fun _ h => h) ⟨?_, rfl, rfl⟩
        rw [hchk, if_pos h3]
      · by_cases h4 : x.m.number = (((strmV l o).length + 1 : Nat) : Int)
        · by_cases h0 : 0 < (strmV l o).length
          · obtain ⟨y, hy⟩ : ∃ y, (strmV l o)[(strmV l o).length - 1]? = some y := ⟨_, List.getElem?_eq_getElem (by omega)⟩
            have hlast : lastD (strm (l.map MV.m) o) = y.m.deps := by
              rw [← strmV_map]
              exact lastD_get (by rw [List.length_map, List.getElem?_map, hy]; rfl)
            rw [hlast] at hchk
            refine Fn.enter Tryz.func23 rfl Tryz.ntmps23 rfl (L := [(0, _), (1, _)]) ⟨rfl, rfl, trivial⟩ fun base => ?_
            repeat ((first | apply H.seq | apply H.region))
            refine H.box (ls := x.vals) rfl rfl rfl rfl fun mb => ?_
            repeat (first | ((first | apply H.move | apply H.assign); (iterate 3 exact rfl)) | (first | apply H.seq | apply H.region | apply H.nil | apply H.then_normal) | ((apply H.ptrNil); (iterate 5 exact rfl)) | (apply H.cond_false; exact rfl) | (apply H.block))
            refine H.loadN (ls := x.vals) rfl rfl rfl (Rd.ofRow (.here _ _ _)) rfl rfl ?_
            refine H.front (x := row lb _ _) (by repeat (first | exact .here _ _ | apply Pull.there)) ?_
            refine H.callR rfl rfl rfl hfits ?_
            refine H.not (b := _) (c := _) rfl rfl rfl rfl ?_
            repeat (first | ((apply H.assign); (iterate 3 exact rfl)) | (first | apply H.seq | apply H.region | apply H.nil | apply H.then_normal) | (apply H.cond_false; exact rfl))
            refine H.loadN (ls := x.vals) rfl rfl rfl (Rd.ofRow (.there _ (.here _ _ _))) rfl rfl ?_
            refine H.callR rfl rfl rfl hright ?_
            refine H.not (b := _) (c := _) rfl rfl rfl rfl ?_
            repeat (first | ((apply H.assign); (iterate 3 exact rfl)) | (first | apply H.seq | apply H.nil | apply H.then_normal) | (apply H.cond_false; exact rfl) | (first | apply H.skip | apply H.in_normal))
            refine H.front (x := fam (strH l i) 11) (by repeat (first | exact .here _ _ | apply Pull.there)) ?_
            refine H.famPull ho11 ?_
            refine H.slc_some (p := i.P o) (n0 := (strmV l o).length) (c := i.C o) (.here _ _ _) h0 fun sb hp => ?_
            have hrd : ∀ {f G}, Rd f (strH l i o :: G) sb (((strmV l o).length - 1) * 121 + 2) (v11 y.m.deps) := fun {f G} => by
              unfold strH
              rw [hp]
              exact slc_deps (.here _ _ _) hy
            rw [hp] at hstr
            generalize hs : (strmV l o).length = s at *
            refine H.front (x := row lb _ _) (by repeat (first | exact .here _ _ | apply Pull.there)) ?_
            refine H.front (x := row mb _ _) (by repeat (first | exact .here _ _ | apply Pull.there)) ?_
            refine H.drawQ (by kernel_rfl) (by decide +kernel) (by repeat (first | exact blind_fn | refine blind_seq ?_ | refine blind_block ?_ | refine blind_loop ?_)) ?_
            repeat (first | ((first | apply HQ.move | apply HQ.nilCheck); (iterate 3 exact rfl)) | (apply HQ.fieldAddr; (iterate 3 exact rfl); exact inferInstance; exact rfl) | (apply HQ.load1; (iterate 3 exact rfl); apply Rd1.ofRow; (repeat (exact .here _ _ _)); (iterate 2 exact rfl)) | ((apply HQ.ar; (iterate 4 exact rfl)); (with_reducible apply wr_i64; omega); exact rfl))
            refine HQ.index_array (i := o) rfl rfl rfl hoz ho11 rfl ?_
            refine HQ.load1 rfl rfl rfl (Rd1.at0 (Rd.ofRow (by repeat (first | exact .here _ _ _ | apply At.there))) (by rw [Nat.mul_one, Nat.zero_add]; exact hstr)) rfl ?_
            repeat (first | ((apply HQ.assign); (iterate 3 exact rfl)) | ((apply HQ.done0); exact rfl))
            repeat (first | ((first | apply H.move | apply H.assign | apply H.len_slice); (iterate 3 exact rfl)) | (apply H.fieldAddr; (iterate 3 exact rfl); exact inferInstance; exact rfl) | (apply H.load1; (iterate 3 exact rfl); apply Rd1.ofRow; (repeat (exact .here _ _ _)); (iterate 2 exact rfl)) | (first | apply H.seq | apply H.region | apply H.nil | apply H.then_normal) | ((apply H.cmp); (iterate 5 exact rfl)) | ((apply H.conv_int; (iterate 2 exact rfl)); (with_reducible apply wr_u64; omega); exact rfl) | (apply H.block) | (apply H.cond_no; exact rfl; (assumption)))
            refine H.front (x := row mb _ _) (by repeat (first | exact .here _ _ | apply Pull.there)) ?_
            refine H.front (x := strH l i o) (by repeat (first | exact .here _ _ | apply Pull.there)) ?_
            refine H.drawB (by kernel_rfl) (by decide +kernel) (by repeat (first | exact blind_fn | refine blind_seq ?_ | refine blind_block ?_ | refine blind_loop ?_)) (S := [_, _]) rfl ?_
            refine HB.quiet [(0, false), (1, false), (2, false), (3, false), (4, false), (5, false), (6, false), (7, false), (8, false), (9, false), (10, false), (11, false), (12, false), (13, false), (14, false), (15, false), (16, false), (17, false)] 3 (by kernel_rfl) ?_
            repeat (first | ((apply HQ.move); (iterate 3 exact rfl)) | (apply HQ.fieldAddr; (iterate 3 exact rfl); exact inferInstance; exact rfl) | (apply HQ.load1; (iterate 3 exact rfl); apply Rd1.ofRow; (repeat (first | exact .here _ _ _ | apply At.there)); (iterate 2 exact rfl)) | ((apply HQ.cmp); (iterate 5 exact rfl)) | ((apply HQ.ar; (iterate 4 exact rfl)); (with_reducible apply wr_u64; omega); exact rfl) | (apply HQ.pickT; (iterate 4 exact rfl)) | (apply HQ.gyes; (iterate 3 exact rfl); (first | assumption | omega)))
            refine HQ.index_slice (i := s - 1) rfl rfl rfl (by omega) (by omega) rfl ?_
            repeat ((apply HQ.fieldAddr; (iterate 3 exact rfl); exact inferInstance; exact rfl))
            refine HQ.loadN (ls := v11 y.m.deps) rfl rfl rfl (by rw [Nat.zero_add]; exact hrd) rfl rfl ?_
            repeat ((apply HQ.fieldAddr; (iterate 3 exact rfl); exact inferInstance; exact rfl))
            refine HQ.loadN (ls := v11 x.m.deps) rfl rfl rfl (msg_deps (m := x.m) (q := x.qp) (qc := x.qc) (.there _ (.here _ _ _))) rfl rfl ?_
            refine HQ.more rfl ?_
            refine HB.ev1 (i := 18) (by kernel_rfl) rfl ?_
            refine H.callR rfl rfl rfl (above_fn f _ _ _) ?_
            cases hab : aboveB y.m.deps x.m.deps with
            | true =>
              repeat ((apply H.nil))
              refine H.on0 rfl ?_
              refine HB.quiet [(19, false), (20, false)] 0 (by kernel_rfl) ?_
              repeat (first | ((apply HQ.assign); (iterate 3 exact rfl)) | (apply HQ.pickT; (iterate 4 exact rfl)))
              refine HQ.more rfl ?_
              refine HB.done (by kernel_rfl) ?_
              repeat (first | ((apply H.assign); (iterate 3 exact rfl)) | (first | apply H.seq | apply H.region | apply H.nil | apply H.then_normal) | (apply H.cond_true; exact rfl) | (first | apply H.ret | apply H.then_ret | apply H.in_ret))
              refine H.front (x := fam (updF (strH l i) o emp) 11) (by repeat (first | exact .here _ _ | apply Pull.there)) ?_
              refine H.front (x := strH l i o) (by repeat (first | exact .here _ _ | apply Pull.there)) ?_
              refine H.famBack ho11 ?_
              refine H.front (x := ordH l i) (by repeat (first | exact .here _ _ | apply Pull.there)) ?_
              refine H.front (x := fam (strH l i) 11) (by repeat (first | exact .here _ _ | apply Pull.there)) ?_
              refine H.front (x := row lb _ _) (by repeat (first | exact .here _ _ | apply Pull.there)) ?_
              refine H.imp (lore_fold i hi) ?_
              refine H.drop (x := row mb _ _) (by repeat (first | exact .here _ _ | apply Pull.there)) ?_
              refine H.ret1 rfl rfl (fun _ h => h) ⟨?_, rfl, rfl⟩
              rw [hchk, if_neg h3, if_pos ⟨h4, h0, hab⟩]
            | false =>
              repeat ((apply H.nil))
              refine H.on0 rfl ?_
              refine HB.quiet [(19, false), (20, false)] 0 (by kernel_rfl) ?_
              repeat (first | ((apply HQ.assign); (iterate 3 exact rfl)) | (apply HQ.pickT; (iterate 4 exact rfl)))
              refine HQ.more rfl ?_
              refine HB.done (by kernel_rfl) ?_
              repeat (first | ((first | apply H.move | apply H.assign); (iterate 3 exact rfl)) | (apply H.fieldAddr; (iterate 3 exact rfl); exact inferInstance; exact rfl) | (apply H.load1; (iterate 3 exact rfl); apply Rd1.ofRow; (repeat (first | exact .here _ _ _ | apply At.there)); (iterate 2 exact rfl)) | (first | apply H.seq | apply H.region | apply H.nil | apply H.then_normal) | ((apply H.cmp); (iterate 5 exact rfl)) | ((apply H.ar; (iterate 4 exact rfl)); (with_reducible apply wr_u64; omega); exact rfl) | (apply H.cond_false; exact rfl) | (apply H.cond_no; exact rfl; (omega)))
              refine H.front (x := fam (updF (strH l i) o emp) 11) (by repeat (first | exact .here _ _ | apply Pull.there)) ?_
              refine H.front (x := strH l i o) (by repeat (first | exact .here _ _ | apply Pull.there)) ?_
              refine H.famBack ho11 ?_
              have hc4 : ¬ (x.m.number = ((s + 1 : Nat) : Int) ∧ 0 < s ∧ aboveB y.m.deps x.m.deps = true) := by rintro ⟨_, _, h⟩; rw [hab] at h; cases h
              refine H.front (x := ordH l i) (by repeat (first | exact .here _ _ | apply Pull.there)) ?_
              refine H.front (x := fam (strH l i) 11) (by repeat (first | exact .here _ _ | apply Pull.there)) ?_
              refine H.front (x := row lb _ _) (by repeat (first | exact .here _ _ | apply Pull.there)) ?_
              refine H.imp (lore_fold i hi) ?_
              refine H.front (x := row mb _ _) (by repeat (first | exact .here _ _ | apply Pull.there)) ?_
              refine H.drawB (by kernel_rfl) (by decide +kernel) (by repeat (first | exact blind_fn | refine blind_seq ?_ | refine blind_block ?_ | refine blind_loop ?_)) (S := [_]) rfl ?_
              refine HB.quiet [(0, false), (1, false), (2, false)] 3 (by kernel_rfl) ?_
              repeat ((apply HQ.fieldAddr; (iterate 3 exact rfl); exact inferInstance; exact rfl))
              refine HQ.loadN (ls := v11 x.m.deps) rfl rfl rfl (msg_deps (m := x.m) (q := x.qp) (qc := x.qc) (.here _ _ _)) rfl rfl ?_
              repeat (((apply HQ.move); (iterate 3 exact rfl)))
              refine HQ.more rfl ?_
              refine HB.ev1 (i := 3) (by kernel_rfl) rfl ?_
              refine H.front (x := loreH _ _ _ _) (by repeat (first | exact .here _ _ | apply Pull.there)) ?_
              refine H.callR rfl rfl rfl (known_fn f _) ?_
              repeat ((apply H.nil))
              refine H.front (x := row mb _ _) (by repeat (first | exact .here _ _ | apply Pull.there)) ?_
              refine H.on0 rfl ?_
              refine HB.ev1 (i := 4) (by kernel_rfl) rfl ?_
              refine H.callR rfl rfl rfl (above_fn f _ _ _) ?_
              repeat ((apply H.nil))
              refine H.on0 rfl ?_
              refine HB.quiet [(5, false)] 0 (by kernel_rfl) ?_
              repeat (((apply HQ.assign); (iterate 3 exact rfl)))
              refine HQ.more rfl ?_
              refine HB.done (by kernel_rfl) ?_
              cases hab : aboveB x.m.deps (knownS (strm (l.map MV.m))) with
              | true =>
                repeat (first | ((apply H.assign); (iterate 3 exact rfl)) | (first | apply H.seq | apply H.region | apply H.nil | apply H.then_normal) | (apply H.cond_true; exact rfl) | (first | apply H.ret | apply H.then_ret | apply H.in_ret))
                refine H.drop (.here _ _) ?_
                refine H.ret1 rfl rfl (fun _ h => h) ⟨?_, rfl, rfl⟩
                rw [hchk, if_neg (by omega), if_neg hc4, if_pos (.inr hab)]
              | false =>
                repeat (first | ((apply H.assign); (iterate 3 exact rfl)) | (first | apply H.seq | apply H.region | apply H.nil | apply H.then_normal) | (apply H.cond_false; exact rfl) | (first | apply H.skip | apply H.ret | apply H.in_normal))
                refine H.drop (.here _ _) ?_
                refine H.ret1 rfl rfl (fun _ h => h) ⟨?_, rfl, rfl⟩
                rw [hchk, if_neg (by omega), if_neg hc4, if_neg (by rintro (h | h); omega; rw [hab] at h; cases h)]
          · have hc4 : ¬ (x.m.number = (((strmV l o).length + 1 : Nat) : Int) ∧ 0 < (strmV l o).length ∧ aboveB (lastD (strm (l.map MV.m) o)) x.m.deps = true) := fun h => h0 h.2.1
            generalize hs : (strmV l o).length = s at *
            refine Fn.enter Tryz.func23 rfl Tryz.ntmps23 rfl (L := [(0, _), (1, _)]) ⟨rfl, rfl, trivial⟩ fun base => ?_
            repeat ((first | apply H.seq | apply H.region))
            refine H.box (ls := x.vals) rfl rfl rfl rfl fun mb => ?_
            repeat (first | ((first | apply H.move | apply H.assign); (iterate 3 exact rfl)) | (first | apply H.seq | apply H.region | apply H.nil | apply H.then_normal) | ((apply H.ptrNil); (iterate 5 exact rfl)) | (apply H.cond_false; exact rfl) | (apply H.block))
            refine H.loadN (ls := x.vals) rfl rfl rfl (Rd.ofRow (.here _ _ _)) rfl rfl ?_
            refine H.front (x := row lb _ _) (by repeat (first | exact .here _ _ | apply Pull.there)) ?_
            refine H.callR rfl rfl rfl hfits ?_
            refine H.not (b := _) (c := _) rfl rfl rfl rfl ?_
            repeat (first | ((apply H.assign); (iterate 3 exact rfl)) | (first | apply H.seq | apply H.region | apply H.nil | apply H.then_normal) | (apply H.cond_false; exact rfl))
            refine H.loadN (ls := x.vals) rfl rfl rfl (Rd.ofRow (.there _ (.here _ _ _))) rfl rfl ?_
            refine H.callR rfl rfl rfl hright ?_
            refine H.not (b := _) (c := _) rfl rfl rfl rfl ?_
            repeat (first | ((apply H.assign); (iterate 3 exact rfl)) | (first | apply H.seq | apply H.nil | apply H.then_normal) | (apply H.cond_false; exact rfl) | (first | apply H.skip | apply H.in_normal))
            refine H.drawQ (by kernel_rfl) (by decide +kernel) (by repeat (first | exact blind_fn | refine blind_seq ?_ | refine blind_block ?_ | refine blind_loop ?_)) ?_
            repeat (first | ((first | apply HQ.move | apply HQ.nilCheck); (iterate 3 exact rfl)) | (apply HQ.fieldAddr; (iterate 3 exact rfl); exact inferInstance; exact rfl) | (apply HQ.load1; (iterate 3 exact rfl); apply Rd1.ofRow; (repeat (first | exact .here _ _ _ | apply At.there)); (iterate 2 exact rfl)) | ((apply HQ.ar; (iterate 4 exact rfl)); (with_reducible apply wr_i64; omega); exact rfl))
            refine HQ.index_array (i := o) rfl rfl rfl hoz ho11 rfl ?_
            refine HQ.load1 rfl rfl rfl (Rd1.at0 (Rd.ofRow (by repeat (first | exact .here _ _ _ | apply At.there))) (by rw [Nat.mul_one, Nat.zero_add]; exact hstr)) rfl ?_
            repeat (first | ((apply HQ.assign); (iterate 3 exact rfl)) | ((apply HQ.done0); exact rfl))
            repeat (first | ((first | apply H.move | apply H.assign | apply H.len_slice); (iterate 3 exact rfl)) | (apply H.fieldAddr; (iterate 3 exact rfl); exact inferInstance; exact rfl) | (apply H.load1; (iterate 3 exact rfl); apply Rd1.ofRow; (repeat (first | exact .here _ _ _ | apply At.there)); (iterate 2 exact rfl)) | (first | apply H.seq | apply H.region | apply H.nil | apply H.then_normal) | ((apply H.cmp); (iterate 5 exact rfl)) | ((apply H.conv_int; (iterate 2 exact rfl)); (with_reducible apply wr_u64; omega); exact rfl) | (apply H.block) | (apply H.cond_no; exact rfl; (assumption)))
            refine H.drawB (by kernel_rfl) (by decide +kernel) (by repeat (first | exact blind_fn | refine blind_seq ?_ | refine blind_block ?_ | refine blind_loop ?_)) (S := [_, _]) rfl ?_
            refine HB.quiet [(0, false), (1, false), (2, false), (3, false), (4, false), (5, false), (6, false), (7, false), (8, false), (9, false), (10, false), (11, false), (12, false), (13, false), (14, false), (15, false), (16, false), (17, false)] 3 (by kernel_rfl) ?_
            repeat (first | ((apply HQ.move); (iterate 3 exact rfl)) | (apply HQ.fieldAddr; (iterate 3 exact rfl); exact inferInstance; exact rfl) | (apply HQ.load1; (iterate 3 exact rfl); apply Rd1.ofRow; (repeat (first | exact .here _ _ _ | apply At.there)); (iterate 2 exact rfl)) | ((apply HQ.cmp); (iterate 5 exact rfl)) | ((apply HQ.ar; (iterate 4 exact rfl)); (with_reducible apply wr_u64; omega); exact rfl) | (apply HQ.pass; (iterate 2 exact rfl)) | (apply HQ.pickT; (iterate 4 exact rfl)) | (apply HQ.gyes; (iterate 3 exact rfl); (assumption)) | (apply HQ.gno; (iterate 3 exact rfl); (omega)))
            refine HQ.more rfl ?_
            refine HB.ev1 (i := 18) (by kernel_rfl) rfl ?_
            repeat (first | (apply H.nil) | (apply H.pass; (iterate 2 exact rfl)))
            refine H.on0 rfl ?_
            refine HB.quiet [(19, false), (20, false)] 0 (by kernel_rfl) ?_
            repeat (first | ((apply HQ.assign); (iterate 3 exact rfl)) | ((apply HQ.pickF); (iterate 4 exact rfl)))
            refine HQ.more rfl ?_
            refine HB.done (by kernel_rfl) ?_
            repeat (first | ((first | apply H.move | apply H.assign); (iterate 3 exact rfl)) | (apply H.fieldAddr; (iterate 3 exact rfl); exact inferInstance; exact rfl) | (apply H.load1; (iterate 3 exact rfl); apply Rd1.ofRow; (repeat (first | exact .here _ _ _ | apply At.there)); (iterate 2 exact rfl)) | (first | apply H.seq | apply H.region | apply H.nil | apply H.then_normal) | ((apply H.cmp); (iterate 5 exact rfl)) | ((apply H.ar; (iterate 4 exact rfl)); (with_reducible apply wr_u64; omega); exact rfl) | (apply H.cond_false; exact rfl) | (apply H.cond_no; exact rfl; (omega)))
            refine H.front (x := ordH l i) (by repeat (first | exact .here _ _ | apply Pull.there)) ?_
            refine H.front (x := fam (strH l i) 11) (by repeat (first | exact .here _ _ | apply Pull.there)) ?_
            refine H.front (x := row lb _ _) (by repeat (first | exact .here _ _ | apply Pull.there)) ?_
            refine H.imp (lore_fold i hi) ?_
            refine H.front (x := row mb _ _) (by repeat (first | exact .here _ _ | apply Pull.there)) ?_
            refine H.drawB (by kernel_rfl) (by decide +kernel) (by repeat (first | exact blind_fn | refine blind_seq ?_ | refine blind_block ?_ | refine blind_loop ?_)) (S := [_]) rfl ?_
            refine HB.quiet [(0, false), (1, false), (2, false)] 3 (by kernel_rfl) ?_
            repeat ((apply HQ.fieldAddr; (iterate 3 exact rfl); exact inferInstance; exact rfl))
            refine HQ.loadN (ls := v11 x.m.deps) rfl rfl rfl (msg_deps (m := x.m) (q := x.qp) (qc := x.qc) (.here _ _ _)) rfl rfl ?_
            repeat (((apply HQ.move); (iterate 3 exact rfl)))
            refine HQ.more rfl ?_
            refine HB.ev1 (i := 3) (by kernel_rfl) rfl ?_
            refine H.front (x := loreH _ _ _ _) (by repeat (first | exact .here _ _ | apply Pull.there)) ?_
            refine H.callR rfl rfl rfl (known_fn f _) ?_
            repeat ((apply H.nil))
            refine H.front (x := row mb _ _) (by repeat (first | exact .here _ _ | apply Pull.there)) ?_
            refine H.on0 rfl ?_
            refine HB.ev1 (i := 4) (by kernel_rfl) rfl ?_
            refine H.callR rfl rfl rfl (above_fn f _ _ _) ?_
            repeat ((apply H.nil))
            refine H.on0 rfl ?_
            refine HB.quiet [(5, false)] 0 (by kernel_rfl) ?_
            repeat (((apply HQ.assign); (iterate 3 exact rfl)))
            refine HQ.more rfl ?_
            refine HB.done (by kernel_rfl) ?_
            cases hab : aboveB x.m.deps (knownS (strm (l.map MV.m))) with
            | true =>
              repeat (first | ((apply H.assign); (iterate 3 exact rfl)) | (first | apply H.seq | apply H.region | apply H.nil | apply H.then_normal) | (apply H.cond_true; exact rfl) | (first | apply H.ret | apply H.then_ret | apply H.in_ret))
              refine H.drop (.here _ _) ?_
              refine H.ret1 rfl rfl (fun _ h => h) ⟨?_, rfl, rfl⟩
              rw [hchk, if_neg (by omega), if_neg hc4, if_pos (.inr hab)]
            | false =>
              repeat (first | ((apply H.assign); (iterate 3 exact rfl)) | (first | apply H.seq | apply H.region | apply H.nil | apply H.then_normal) | (apply H.cond_false; exact rfl) | (first | apply H.skip | apply H.ret | apply H.in_normal))
              refine H.drop (.here _ _) ?_
              refine H.ret1 rfl rfl (fun _ h => h) ⟨?_, rfl, rfl⟩
              rw [hchk, if_neg (by omega), if_neg hc4, if_neg (by rintro (h | h); omega; rw [hab] at h; cases h)]
        · have hc4 : ¬ (x.m.number = (((strmV l o).length + 1 : Nat) : Int) ∧ 0 < (strmV l o).length ∧ aboveB (lastD (strm (l.map MV.m) o)) x.m.deps = true) := fun h => h4 h.1
          generalize hs : (strmV l o).length = s at *
          refine Fn.enter Tryz.func23 rfl Tryz.ntmps23 rfl (L := [(0, _), (1, _)]) ⟨rfl, rfl, trivial⟩ fun base => ?_
          repeat ((first | apply H.seq | apply H.region))
          refine H.box (ls := x.vals) rfl rfl rfl rfl fun mb => ?_
          repeat (first | ((first | apply H.move | apply H.assign); (iterate 3 exact rfl)) | (first | apply H.seq | apply H.region | apply H.nil | apply H.then_normal) | ((apply H.ptrNil); (iterate 5 exact rfl)) | (apply H.cond_false; exact rfl) | (apply H.block))
          refine H.loadN (ls := x.vals) rfl rfl rfl (Rd.ofRow (.here _ _ _)) rfl rfl ?_
          refine H.front (x := row lb _ _) (by repeat (first | exact .here _ _ | apply Pull.there)) ?_
          refine H.callR rfl rfl rfl hfits ?_
          refine H.not (b := _) (c := _) rfl rfl rfl rfl ?_
          repeat (first | ((apply H.assign); (iterate 3 exact rfl)) | (first | apply H.seq | apply H.region | apply H.nil | apply H.then_normal) | (apply H.cond_false; exact rfl))
          refine H.loadN (ls := x.vals) rfl rfl rfl (Rd.ofRow (.there _ (.here _ _ _))) rfl rfl ?_
          refine H.callR rfl rfl rfl hright ?_
          refine H.not (b := _) (c := _) rfl rfl rfl rfl ?_
          repeat (first | ((apply H.assign); (iterate 3 exact rfl)) | (first | apply H.seq | apply H.nil | apply H.then_normal) | (apply H.cond_false; exact rfl) | (first | apply H.skip | apply H.in_normal))
          refine H.drawQ (by kernel_rfl) (by decide +kernel) (by repeat (first | exact blind_fn | refine blind_seq ?_ | refine blind_block ?_ | refine blind_loop ?_)) ?_
          repeat (first | ((first | apply HQ.move | apply HQ.nilCheck); (iterate 3 exact rfl)) | (apply HQ.fieldAddr; (iterate 3 exact rfl); exact inferInstance; exact rfl) | (apply HQ.load1; (iterate 3 exact rfl); apply Rd1.ofRow; (repeat (first | exact .here _ _ _ | apply At.there)); (iterate 2 exact rfl)) | ((apply HQ.ar; (iterate 4 exact rfl)); (with_reducible apply wr_i64; omega); exact rfl))
          refine HQ.index_array (i := o) rfl rfl rfl hoz ho11 rfl ?_
          refine HQ.load1 rfl rfl rfl (Rd1.at0 (Rd.ofRow (by repeat (first | exact .here _ _ _ | apply At.there))) (by rw [Nat.mul_one, Nat.zero_add]; exact hstr)) rfl ?_
          repeat (first | ((apply HQ.assign); (iterate 3 exact rfl)) | ((apply HQ.done0); exact rfl))
          repeat (first | ((first | apply H.move | apply H.assign | apply H.len_slice); (iterate 3 exact rfl)) | (apply H.fieldAddr; (iterate 3 exact rfl); exact inferInstance; exact rfl) | (apply H.load1; (iterate 3 exact rfl); apply Rd1.ofRow; (repeat (first | exact .here _ _ _ | apply At.there)); (iterate 2 exact rfl)) | (first | apply H.seq | apply H.region | apply H.nil | apply H.then_normal) | ((apply H.cmp); (iterate 5 exact rfl)) | ((apply H.conv_int; (iterate 2 exact rfl)); (with_reducible apply wr_u64; omega); exact rfl) | (apply H.block) | (apply H.cond_no; exact rfl; (assumption)))
          refine H.drawB (by kernel_rfl) (by decide +kernel) (by repeat (first | exact blind_fn | refine blind_seq ?_ | refine blind_block ?_ | refine blind_loop ?_)) (S := [_, _]) rfl ?_
          refine HB.quiet [(0, false), (1, false), (2, false), (3, false), (4, false), (5, false), (6, false), (7, false), (8, false), (9, false), (10, false), (11, false), (12, false), (13, false), (14, false), (15, false), (16, false), (17, false)] 3 (by kernel_rfl) ?_
          repeat (first | ((apply HQ.move); (iterate 3 exact rfl)) | (apply HQ.fieldAddr; (iterate 3 exact rfl); exact inferInstance; exact rfl) | (apply HQ.load1; (iterate 3 exact rfl); apply Rd1.ofRow; (repeat (first | exact .here _ _ _ | apply At.there)); (iterate 2 exact rfl)) | ((apply HQ.cmp); (iterate 5 exact rfl)) | ((apply HQ.ar; (iterate 4 exact rfl)); (with_reducible apply wr_u64; omega); exact rfl) | (apply HQ.pass; (iterate 2 exact rfl)) | ((apply HQ.pickF); (iterate 4 exact rfl)) | (apply HQ.gno; (iterate 3 exact rfl); (assumption)))
          refine HQ.more rfl ?_
          refine HB.ev1 (i := 18) (by kernel_rfl) rfl ?_
          repeat (first | (apply H.nil) | (apply H.pass; (iterate 2 exact rfl)))
          refine H.on0 rfl ?_
          refine HB.quiet [(19, false), (20, false)] 0 (by kernel_rfl) ?_
          repeat (first | ((apply HQ.assign); (iterate 3 exact rfl)) | ((apply HQ.pickF); (iterate 4 exact rfl)))
          refine HQ.more rfl ?_
          refine HB.done (by kernel_rfl) ?_
          repeat (first | ((first | apply H.move | apply H.assign); (iterate 3 exact rfl)) | (apply H.fieldAddr; (iterate 3 exact rfl); exact inferInstance; exact rfl) | (apply H.load1; (iterate 3 exact rfl); apply Rd1.ofRow; (repeat (first | exact .here _ _ _ | apply At.there)); (iterate 2 exact rfl)) | (first | apply H.seq | apply H.region | apply H.nil | apply H.then_normal) | ((apply H.cmp); (iterate 5 exact rfl)) | ((apply H.ar; (iterate 4 exact rfl)); (with_reducible apply wr_u64; omega); exact rfl) | (apply H.cond_false; exact rfl) | (first | apply H.skip | apply H.ret | apply H.then_ret | apply H.in_ret) | (apply H.cond_yes; exact rfl; (omega)))
          refine H.front (x := ordH l i) (by repeat (first | exact .here _ _ | apply Pull.there)) ?_
          refine H.front (x := fam (strH l i) 11) (by repeat (first | exact .here _ _ | apply Pull.there)) ?_
          refine H.front (x := row lb _ _) (by repeat (first | exact .here _ _ | apply Pull.there)) ?_
          refine H.imp (lore_fold i hi) ?_
          refine H.drop (x := row mb _ _) (by repeat (first | exact .here _ _ | apply Pull.there)) ?_
          refine H.ret1 rfl rfl (fun _ h => h) ⟨?_, rfl, rfl⟩
          rw [hchk, if_neg (by omega), if_neg hc4, if_pos (.inl (by omega))]
end
end Go.Proofs.YtoigpgdmignaoaaGreatDoor

/- Layer 13: the program's wait: what it owns; New, Len, open, greatest. No conditions. -/
namespace Go.Proofs.YtoigpgdmignaoaaGreatDoor
open Go
def nmE (k : Nm) : Value := .agg (nmV k).toArray
instance keyW : KeyT Tryz.prog 136 nmE := keyT_agg (cellsK := nmV) (D := 4) (by kernel_rfl) (fun k => by kernel_rfl) (by decide) (fun a b => by
    obtain ⟨a1, a2⟩ := a
    obtain ⟨b1, b2⟩ := b
    show (a1 == b1 && (a2 == b2 && true)) = _
    by_cases h1 : a1 = b1 <;> by_cases h2 : a2 = b2 <;> simp [h1, h2]) (fun k => rfl)
def entV (x : MV) : Nm × Value := (keyM x.m, .agg x.vals.toArray)
structure Waitφ (f : Frag) (ws : List MV) : Prop where
  g : ∀ x ∈ ws, x.Good f
  pos : ∀ x ∈ ws, 0 ≤ x.m.number
  ku : KU (ws.map MV.m)
  len : ws.length ≤ 100000
def waitH (f : Frag) (wb : Nat) (ws : List MV) : HP := pack (fun _ : Nat => Waitφ f ws) (fun b => [row wb 131 [.map (some b)], mp b nmE (ws.map entV)])
theorem Waitφ.mono {f g : Frag} (h : Le f g) {ws : List MV} (hl : Waitφ f ws) : Waitφ g ws := ⟨fun x hx => (hl.g x hx).mono h, hl.pos, hl.ku, hl.len⟩
theorem wait_fold {fl : Frag} {F : List HP} {wb : Nat} {ws : List MV} (b : Nat) (h : Waitφ fl ws) : ∀ x, stars (row wb 131 [.map (some b)] :: mp b nmE (ws.map entV) :: F) x → stars (waitH fl wb ws :: F) x := fun x hx =>
  pack_fold (ι := Nat) (φ := fun _ : Nat => Waitφ fl ws) (B := fun b => [row wb 131 [.map (some b)], mp b nmE (ws.map entV)]) b h x hx
theorem ent_mem {ws : List MV} {es : List (Nm × Value × Nat)} (hes : es.map kvOf = ws.map entV) {e : Nm × Value × Nat} (he : e ∈ es) : ∃ x ∈ ws, e.1 = keyM x.m ∧ e.2.1 = .agg x.vals.toArray := by
  have h1 : kvOf e ∈ ws.map entV := by rw [← hes]; exact List.mem_map_of_mem he
  obtain ⟨x, hx, h2⟩ := List.mem_map.1 h1
  exact ⟨x, hx, (congrArg (·.1) h2).symm, (congrArg (·.2) h2).symm⟩
theorem ent_of {ws : List MV} {es : List (Nm × Value × Nat)} (hes : es.map kvOf = ws.map entV) {x : MV} (hx : x ∈ ws) : ∃ e ∈ es, e.1 = keyM x.m := by
  have h1 : entV x ∈ es.map kvOf := by rw [hes]; exact List.mem_map_of_mem hx
  obtain ⟨e, he, h2⟩ := List.mem_map.1 h1
  exact ⟨e, he, congrArg (·.1) h2⟩
theorem ent_keys (ws : List MV) : (ws.map entV).map (·.1) = (ws.map MV.m).map keyM := by
  rw [List.map_map, List.map_map]; rfl
theorem ent_filter (ws : List MV) (k : Nm) : (ws.map entV).filter (fun e => !decide (k = e.1)) = (ws.filter fun x => !decide (k = keyM x.m)).map entV := by
  rw [List.filter_map]; rfl
structure GR (ds : List Msg) (o : Int) (k : Nm) : Prop where
  zero : cntO ds o = 0 → k = (0, 0)
  pos : 0 < cntO ds o → ∃ t, Top ds o t ∧ k = keyM t
theorem GR.nil (o : Int) : GR [] o (0, 0) := ⟨fun _ => rfl, fun h => absurd h (Nat.lt_irrefl 0)⟩
theorem cntO_pos {ds : List Msg} {o : Int} {y : Msg} (hy : y ∈ ds) (ho : y.origin = o) : 0 < cntO ds o := by
  unfold cntO
  exact List.length_pos_of_mem (List.mem_filter.2 ⟨hy, decide_eq_true ho⟩)
theorem GR.skip {ds : List Msg} {o : Int} {k : Nm} {x : Msg} (h : GR ds o k) (hx : x.origin ≠ o) : GR (x :: ds) o k := by
  have e : cntO (x :: ds) o = cntO ds o := by rw [cntO_cons, if_neg hx]; rfl
  refine ⟨fun h0 => h.zero (by rw [← e]; exact h0), fun h0 => ?_⟩
  obtain ⟨t, ht, hk⟩ := h.pos (by rw [← e]; exact h0)
  refine ⟨t, ⟨List.mem_cons_of_mem _ ht.mem, ht.org, fun y hy ho => ?_⟩, hk⟩
  rcases List.mem_cons.1 hy with h1 | h1
  · exact absurd (by rw [← h1]; exact ho) hx
  · exact ht.max y h1 ho
theorem GR.take {ds : List Msg} {o : Int} {k : Nm} {x : Msg} (h : GR ds o k) (hx : x.origin = o) (hk : k.2 ≤ x.number) : GR (x :: ds) o (keyM x) := by
  have e : cntO (x :: ds) o = cntO ds o + 1 := by rw [cntO_cons, if_pos hx]
  refine ⟨fun h0 => by omega, fun _ => ⟨x, ⟨by simp, hx, fun y hy ho => ?_⟩, rfl⟩⟩
  rcases List.mem_cons.1 hy with h1 | h1
  · rw [h1]; exact Int.le_refl _
  · obtain ⟨t, ht, e2⟩ := h.pos (cntO_pos h1 ho)
    have := ht.max y h1 ho
    rw [e2] at hk
    exact Int.le_trans this hk
theorem GR.keep {ds : List Msg} {o : Int} {k : Nm} {x : Msg} (h : GR ds o k) (hx : x.origin = o) (hk : x.number < k.2) (h0 : 0 ≤ x.number) : GR (x :: ds) o k := by
  have e : cntO (x :: ds) o = cntO ds o + 1 := by rw [cntO_cons, if_pos hx]
  refine ⟨fun h0 => by omega, fun _ => ?_⟩
  by_cases hz : cntO ds o = 0
  · rw [h.zero hz] at hk
    have hk : x.number < 0 := hk
    omega
  · obtain ⟨t, ht, e2⟩ := h.pos (by omega)
    refine ⟨t, ⟨List.mem_cons_of_mem _ ht.mem, ht.org, fun y hy ho => ?_⟩, e2⟩
    rcases List.mem_cons.1 hy with h1 | h1
    · rw [e2] at hk
      have hk : x.number < t.number := hk
      rw [h1]; omega
    · exact ht.max y h1 ho
theorem KU.perm_of {ws ds : List Msg} (hku : KU ws) (hds : (ds.map keyM).Nodup) (h1 : ∀ x ∈ ds, x ∈ ws) (h2 : ∀ x ∈ ws, keyM x ∈ ds.map keyM) : ds.Perm ws := by
  have hn : ∀ l : List Msg, (l.map keyM).Nodup → l.Nodup := fun l h => by
    induction l with
    | nil => exact List.nodup_nil
    | cons a l ih =>
      have h' := List.nodup_cons.1 h
      exact List.nodup_cons.2 ⟨fun hm => h'.1 (List.mem_map_of_mem hm), ih h'.2⟩
  refine (List.perm_ext_iff_of_nodup (hn ds hds) (hn ws hku)).2 fun x => ⟨h1 x, fun hx => ?_⟩
  obtain ⟨y, hy, e⟩ := List.mem_map.1 (h2 x hx)
  rw [← hku.same (h1 y hy) hx e]
  exact hy
theorem GR.perm {a b : List Msg} (p : a.Perm b) {o : Int} {k : Nm} (h : GR a o k) : GR b o k := by
  refine ⟨fun h0 => h.zero (by rw [cntO_perm p]; exact h0), fun h0 => ?_⟩
  obtain ⟨t, ht, e⟩ := h.pos (by rw [cntO_perm p]; exact h0)
  exact ⟨t, ht.perm p, e⟩
theorem cntO_le (ds : List Msg) (o : Int) : cntO ds o ≤ ds.length := List.length_filter_le _ _
section
variable (f : Frag) (F : List HP)
theorem wnew_fn : Fn Tryz.prog 36 [] f F (RetE (fun wb : Nat => .pointer (some ⟨wb, 0, none⟩)) f (fun wb => waitH f wb [] :: F)) := by
  refine Fn.enter Tryz.func36 rfl Tryz.ntmps36 rfl (L := []) trivial fun base => ?_
  repeat (first | ((apply H.assign); (iterate 3 exact rfl)) | (first | apply H.seq | apply H.region | apply H.nil | apply H.then_normal))
  refine H.makeMap nmE rfl rfl fun b => ?_
  repeat ((refine H.build (out := [.map (some b)]) rfl rfl rfl (by kernel_rfl) rfl ?_))
  refine H.box (ls := [.map (some b)]) rfl rfl rfl rfl fun wb => ?_
  repeat (first | ((apply H.assign); (iterate 3 exact rfl)) | (first | apply H.nil | apply H.then_normal) | (apply H.ret))
  refine H.imp (wait_fold (fl := f) (ws := []) b ⟨fun x hx => (by cases hx), fun x hx => (by cases hx), List.nodup_nil, Nat.zero_le _⟩) ?_
  exact H.ret1 rfl rfl (fun _ h => h) ⟨wb, rfl, rfl, rfl⟩
theorem wlen_nil : Fn Tryz.prog 41 [.pointer none] f F (Ret (.int .i64 0) f F) := by
  refine Fn.enter Tryz.func41 rfl Tryz.ntmps41 rfl (L := [(0, _)]) ⟨rfl, trivial⟩ fun base => ?_
  repeat (first | ((first | apply H.move | apply H.assign); (iterate 3 exact rfl)) | (first | apply H.seq | apply H.region | apply H.nil | apply H.then_normal) | ((apply H.ptrNil); (iterate 5 exact rfl)) | (apply H.cond_true; exact rfl) | (first | apply H.ret | apply H.then_ret))
  exact H.ret1 rfl rfl (fun _ h => h) ⟨rfl, rfl, rfl⟩
theorem wlen_fn {fl : Frag} {wb : Nat} {ws : List MV} : Fn Tryz.prog 41 [.pointer (some ⟨wb, 0, none⟩)] f (waitH fl wb ws :: F) (Ret (.int .i64 (ws.length : Nat)) f (waitH fl wb ws :: F)) := by
  refine Fn.unpack fun b hb => ?_
  refine Fn.enter Tryz.func41 rfl Tryz.ntmps41 rfl (L := [(0, _)]) ⟨rfl, trivial⟩ fun base => ?_
  repeat (first | ((first | apply H.move | apply H.assign | apply H.nilCheck); (iterate 3 exact rfl)) | (apply H.fieldAddr; (iterate 3 exact rfl); exact inferInstance; exact rfl) | (apply H.load1; (iterate 3 exact rfl); apply Rd1.ofRow; (repeat (exact .here _ _ _)); (iterate 2 exact rfl)) | (first | apply H.seq | apply H.region | apply H.nil | apply H.then_normal) | ((apply H.ptrNil); (iterate 5 exact rfl)) | (apply H.cond_false; exact rfl) | (apply H.skip))
  refine H.len_map rfl rfl (by repeat (first | exact .here _ _ _ | apply At.there)) rfl ?_
  rw [List.length_map]
  repeat (first | ((apply H.assign); (iterate 3 exact rfl)) | (first | apply H.nil | apply H.then_normal) | (apply H.ret))
  refine H.imp (wait_fold b hb) ?_
  exact H.ret1 rfl rfl (fun _ h => h) ⟨rfl, rfl, rfl⟩
theorem wopen_fn {e : Int} : Fn Tryz.prog 65 [.int .i64 e] f F (Ret (.bool (openZ e)) f F) := by
  refine Fn.enter Tryz.func65 rfl Tryz.ntmps65 rfl (L := [(0, _)]) ⟨rfl, trivial⟩ fun base => ?_
  by_cases h1 : e = 0
  · subst h1
    repeat (first | ((first | apply H.move | apply H.assign); (iterate 3 exact rfl)) | (first | apply H.seq | apply H.region | apply H.nil | apply H.then_normal) | ((apply H.cmp); (iterate 5 exact rfl)) | (apply H.pass; (iterate 2 exact rfl)) | (apply H.pickT; (iterate 4 exact rfl)) | (apply H.ret))
    exact H.ret1 rfl rfl (fun _ h => h) ⟨rfl, rfl, rfl⟩
  · by_cases h2 : e = 12
    · subst h2
      repeat (first | ((first | apply H.move | apply H.assign); (iterate 3 exact rfl)) | (first | apply H.seq | apply H.region | apply H.nil | apply H.then_normal) | ((apply H.cmp); (iterate 5 exact rfl)) | ((apply H.pickF); (iterate 4 exact rfl)) | (apply H.ret))
      exact H.ret1 rfl rfl (fun _ h => h) ⟨rfl, rfl, rfl⟩
    · have h3 : openZ e = false := by unfold openZ; rw [decide_eq_false h1, decide_eq_false h2]; rfl
      rw [h3]
      repeat (first | ((first | apply H.move | apply H.assign); (iterate 3 exact rfl)) | (first | apply H.seq | apply H.region | apply H.nil | apply H.then_normal) | ((apply H.cmp); (iterate 5 exact rfl)) | ((apply H.pickF); (iterate 4 exact rfl)) | (apply H.ret) | (apply H.gno; (iterate 3 exact rfl); (assumption)))
      refine H.ret1 rfl rfl (fun _ h => h) ⟨?_, rfl, rfl⟩
      rw [decide_eq_false h2]
set_option maxRecDepth 20000 in
theorem greatest_fn {wb b : Nat} {ws : List MV} {o : Int} (hku : KU (ws.map MV.m)) (hpos : ∀ x ∈ ws, 0 ≤ x.m.number) (hlen : ws.length ≤ 100000) :
    Fn Tryz.prog 69 [.pointer (some ⟨wb, 0, none⟩), .int .i64 o] f (mp b nmE (ws.map entV) :: row wb 131 [.map (some b)] :: F)
    (fun v f' A' => ∃ k : Nm, GR (ws.map MV.m) o k ∧ v = .tuple #[.agg (nmV k).toArray, .int .i64 ((cntO (ws.map MV.m) o : Nat) : Int)] ∧ f' = f ∧ A' = mp b nmE (ws.map entV) :: row wb 131 [.map (some b)] :: F) := by
  refine Fn.openMap fun es clock hes => ?_
  have hun0 : ([] : List Msg).length + unsE es (([] : List Msg).map keyM) ≤ 100000 := by
    have h1 : unsE es (([] : List Msg).map keyM) ≤ es.length := List.length_filter_le _ _
    have h2 := congrArg List.length hes
    rw [List.length_map, List.length_map] at h2
    show 0 + _ ≤ _
    omega
  refine Fn.enter Tryz.func69 rfl Tryz.ntmps69 rfl (L := [(0, _), (1, _)]) ⟨rfl, rfl, trivial⟩ fun base => ?_
  repeat ((first | apply H.seq | apply H.region))
  refine H.alloc (ls := nmV (0, 0)) rfl rfl rfl fun kb => ?_
  repeat (first | ((first | apply H.move | apply H.assign | apply H.nilCheck); (iterate 3 exact rfl)) | (apply H.fieldAddr; (iterate 3 exact rfl); exact inferInstance; exact rfl) | (apply H.load1; (iterate 3 exact rfl); apply Rd1.ofRow; (repeat (first | exact .here _ _ _ | apply At.there)); (iterate 2 exact rfl)) | (first | apply H.seq | apply H.region | apply H.nil | apply H.then_normal))
  refine H.range rfl rfl (by repeat (first | exact .here _ _ _ | apply At.there)) rfl fun rb => ?_
  repeat (first | (first | apply H.nil | apply H.then_normal) | (apply H.block))
  refine H.loop (ι := List Msg × Nm) (fun i => [(11, .pointer (some ⟨rb, 0, none⟩)), (0, .pointer (some ⟨wb, 0, none⟩)), (1, .int .i64 o), (5, .int .i64 ((cntO i.1 o : Nat) : Int)), (4, .pointer (some ⟨kb, 0, none⟩))]) (fun _ => f)
    (fun i => itr rb b es clock (i.1.map keyM) :: row kb 136 (nmV i.2) :: mpS b nmE es clock :: row wb 131 [.map (some b)] :: F)
    (fun i => (∀ y ∈ i.1, y ∈ ws.map MV.m) ∧ (i.1.map keyM).Nodup ∧ GR i.1 o i.2 ∧ i.1.length + unsE es (i.1.map keyM) ≤ 100000) (fun i => unsE es (i.1.map keyM)) ([], (0, 0)) ⟨fun _ h => (by cases h), List.nodup_nil, GR.nil o, hun0⟩ ⟨rfl, rfl, rfl, rfl, rfl, trivial⟩ rfl rfl fun i hi => ?_
  obtain ⟨ds, k⟩ := i
  obtain ⟨hsub, hnd, hgr, hun⟩ : (∀ y ∈ ds, y ∈ ws.map MV.m) ∧ (ds.map keyM).Nodup ∧ GR ds o k ∧ ds.length + unsE es (ds.map keyM) ≤ 100000 := hi
  show H _ _ _ [_, _, _, (5, .int .i64 ((cntO ds o : Nat) : Int)), _] _ (itr rb b es clock (ds.map keyM) :: row kb _ (nmV k) :: _) _
  repeat ((first | apply H.seq | apply H.region))
  refine H.next rfl rfl (by repeat (first | exact .here _ _ _ | apply At.there)) (by repeat (first | exact .here _ _ _ | apply At.there)) (fun _ => (by repeat (first | exact .here _ _ _ | apply At.there))) rfl (fun hend => ?_) (fun e he hns => ?_)
  · have hp : ds.Perm (ws.map MV.m) := hku.perm_of hnd hsub fun x hx => by
      obtain ⟨y, hy, rfl⟩ := List.mem_map.1 hx
      obtain ⟨e, he, e1⟩ := ent_of hes hy
      rw [← e1]; exact hend e he
    repeat (first | (first | apply H.seq | apply H.region | apply H.nil | apply H.then_normal) | ((apply H.extract); (iterate 4 exact rfl)) | (apply H.cond_false; exact rfl) | (first | apply H.then_exit | apply H.exit | apply H.in_hit | apply H.loop_exit))
    refine H.drop (x := itr _ _ _ _ _) (by repeat (first | exact .here _ _ | apply Pull.there)) ?_
    refine H.loadN (ls := nmV k) rfl rfl rfl (Rd.ofRow (by repeat (first | exact .here _ _ _ | apply At.there))) rfl rfl ?_
    repeat (((apply H.move); (iterate 3 exact rfl)))
    refine H.storeN (ls := nmV k) (vs := nmV k) (ls' := nmV k) rfl rfl rfl (nmV_one k) rfl rfl (Nat.le_refl 2) (by repeat (first | exact .here _ _ _ | apply At.there)) ?_
    repeat (first | ((apply H.assign); (iterate 3 exact rfl)) | (first | apply H.nil | apply H.then_normal) | (apply H.ret))
    refine H.front (x := mpS _ _ _ _) (by repeat (first | exact .here _ _ | apply Pull.there)) ?_
    refine H.imp mpS_fold ?_
    rw [hes]
    refine H.front (x := row kb _ _) (by repeat (first | exact .here _ _ | apply Pull.there)) ?_
    exact H.retCT (ls := nmV k) rfl rfl rfl rfl (Rd.ofRow (.here _ _ _)) rfl (fun _ s => s.drop (.here _ _)) ⟨k, hgr.perm hp, by rw [cntO_perm hp], rfl, rfl⟩
  · obtain ⟨ek, ev, st⟩ := e
    obtain ⟨x, hx, e1, e2⟩ := ent_mem hes he
    have e1 : ek = keyM x.m := e1
    have e2 : ev = .agg x.vals.toArray := e2
    subst e1; subst e2
    have hxp := hpos x hx
    have hle := cntO_le ds o
    have hdl : ds.length ≤ 100000 := by omega
    have hns : keyM x.m ∉ ds.map keyM := hns
    repeat (first | (first | apply H.seq | apply H.region | apply H.nil | apply H.then_normal) | ((apply H.extract); (iterate 4 exact rfl)) | (apply H.cond_true; exact rfl) | (first | apply H.skip | apply H.block))
    refine H.entry rfl rfl (by repeat (first | exact .here _ _ _ | apply At.there)) (by repeat (first | exact .here _ _ _ | apply At.there)) he rfl ?_
    repeat (((apply H.extract); (iterate 4 exact rfl)))
    refine H.alloc (ls := nmV (0, 0)) rfl rfl rfl fun xb => ?_
    refine H.storeN (ls := nmV (0, 0)) (vs := nmV (keyM x.m)) (ls' := nmV (keyM x.m)) rfl rfl rfl (nmV_one _) rfl rfl (Nat.le_refl 2) (.here _ _ _) ?_
    have hlt2 := unsE_lt (e := (keyM x.m, Value.agg x.vals.toArray, st)) he hns
    have hlt3 : unsE es ((x.m :: ds).map keyM) < unsE es (ds.map keyM) := hlt2
    clear hlt2
    by_cases ho : x.m.origin = o
    · have hcn : cntO (x.m :: ds) o = cntO ds o + 1 := by rw [cntO_cons, if_pos ho]
      by_cases hk : k.2 ≤ x.m.number
      · have hgr2 := hgr.take ho hk
        repeat (first | ((first | apply H.move | apply H.assign); (iterate 3 exact rfl)) | (apply H.fieldAddr; (iterate 3 exact rfl); exact inferInstance; exact rfl) | (apply H.load1; (iterate 3 exact rfl); apply Rd1.ofRow; (repeat (first | exact .here _ _ _ | apply At.there)); (iterate 2 exact rfl)) | (first | apply H.seq | apply H.region | apply H.nil | apply H.then_normal) | ((apply H.cmp); (iterate 5 exact rfl)) | ((apply H.ar; (iterate 4 exact rfl)); (with_reducible apply wr_i64_n1; omega); exact rfl) | (apply H.cond_yes; exact rfl; (assumption)))
        refine H.loadN (ls := nmV (keyM x.m)) rfl rfl rfl (Rd.ofRow (.here _ _ _)) rfl rfl ?_
        refine H.storeN (ls := nmV k) (vs := nmV (keyM x.m)) (ls' := nmV (keyM x.m)) rfl rfl rfl (nmV_one _) rfl rfl (Nat.le_refl 2) (by repeat (first | exact .here _ _ _ | apply At.there)) ?_
        repeat (first | (apply H.nil) | (apply H.in_normal))
        refine H.drop (x := row xb _ _) (by repeat (first | exact .here _ _ | apply Pull.there)) ?_
        exact H.again (x.m :: ds, keyM x.m) ⟨fun y hy => by
            rcases List.mem_cons.1 hy with h | h
            · rw [h]; exact List.mem_map_of_mem hx
            · exact hsub y h, List.nodup_cons.2 ⟨hns, hnd⟩, hgr2, by show ds.length + 1 + unsE es ((x.m :: ds).map keyM) ≤ 100000; omega⟩ hlt3 ⟨rfl, rfl, rfl, by show look? _ _ = some (Value.int .i64 ((cntO (x.m :: ds) o : Nat) : Int)); rw [hcn]; rfl, rfl, trivial⟩ rfl rfl
      · have hgr2 := hgr.keep ho (by omega) hxp
        obtain ⟨kk2, hkk⟩ : ∃ kk2, kk2 = k := ⟨_, rfl⟩
        repeat (first | ((first | apply H.move | apply H.assign); (iterate 3 exact rfl)) | (apply H.fieldAddr; (iterate 3 exact rfl); exact inferInstance; exact rfl) | (apply H.load1; (iterate 3 exact rfl); apply Rd1.ofRow; (repeat (first | exact .here _ _ _ | apply At.there)); (iterate 2 exact rfl)) | (first | apply H.seq | apply H.region | apply H.nil | apply H.then_normal) | ((apply H.cmp); (iterate 5 exact rfl)) | ((apply H.ar; (iterate 4 exact rfl)); (with_reducible apply wr_i64_n1; omega); exact rfl) | (first | apply H.skip | apply H.in_normal) | (apply H.cond_yes; exact rfl; (assumption)) | (apply H.cond_no; exact rfl; (assumption)))
        rw [← hkk] at hgr2 ⊢
        refine H.drop (x := row xb _ _) (by repeat (first | exact .here _ _ | apply Pull.there)) ?_
        exact H.again (x.m :: ds, kk2) ⟨fun y hy => by
            rcases List.mem_cons.1 hy with h | h
            · rw [h]; exact List.mem_map_of_mem hx
            · exact hsub y h, List.nodup_cons.2 ⟨hns, hnd⟩, hgr2, by show ds.length + 1 + unsE es ((x.m :: ds).map keyM) ≤ 100000; omega⟩ hlt3 ⟨rfl, rfl, rfl, by show look? _ _ = some (Value.int .i64 ((cntO (x.m :: ds) o : Nat) : Int)); rw [hcn]; rfl, rfl, trivial⟩ rfl rfl
    · have hcn : cntO (x.m :: ds) o = cntO ds o := by rw [cntO_cons, if_neg ho]; rfl
      have hgr2 := hgr.skip ho
      obtain ⟨kk2, hkk⟩ : ∃ kk2, kk2 = k := ⟨_, rfl⟩
      repeat (first | ((apply H.move); (iterate 3 exact rfl)) | (apply H.fieldAddr; (iterate 3 exact rfl); exact inferInstance; exact rfl) | (apply H.load1; (iterate 3 exact rfl); apply Rd1.ofRow; (repeat (exact .here _ _ _)); (iterate 2 exact rfl)) | (first | apply H.seq | apply H.region | apply H.nil | apply H.then_normal) | ((apply H.cmp); (iterate 5 exact rfl)) | (first | apply H.skip | apply H.in_normal) | (apply H.cond_no; exact rfl; (assumption)))
      rw [← hkk] at hgr2 ⊢
      refine H.drop (x := row xb _ _) (by repeat (first | exact .here _ _ | apply Pull.there)) ?_
      exact H.again (x.m :: ds, kk2) ⟨fun y hy => by
          rcases List.mem_cons.1 hy with h | h
          · rw [h]; exact List.mem_map_of_mem hx
          · exact hsub y h, List.nodup_cons.2 ⟨hns, hnd⟩, hgr2, by show ds.length + 1 + unsE es ((x.m :: ds).map keyM) ≤ 100000; omega⟩ hlt3 ⟨rfl, rfl, rfl, by show look? _ _ = some (Value.int .i64 ((cntO (x.m :: ds) o : Nat) : Int)); rw [hcn]; rfl, rfl, trivial⟩ rfl rfl
end
end Go.Proofs.YtoigpgdmignaoaaGreatDoor
