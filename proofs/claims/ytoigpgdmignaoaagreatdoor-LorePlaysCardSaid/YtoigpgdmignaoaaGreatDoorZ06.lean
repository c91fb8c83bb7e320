/- Parts of the proof, one behind the other, each under its own heading. No conditions. -/
import Derived.Test.YtoigpgdmignaoaaGreatDoorZ05
import Derived.OpenShut
import Derived.Test.YtoigpgdmignaoaaGreatDoorRows
set_option linter.unusedSectionVars false
set_option linter.unusedSimpArgs false
set_option linter.unusedVariables false
/- Layer 8: the same messages: the document's Same. No condition. -/
namespace Go.Proofs.YtoigpgdmignaoaaGreatDoor
open Go
def Msg.eqB (a b : Msg) : Bool := decide (a.origin = b.origin) && (decide (a.number = b.number) && (eqC (v11 a.deps) (v11 b.deps) && (Bod.eqB a.body b.body && eqC (b32 a.tag) (b32 b.tag))))
theorem eqv_refl (v : Value) (h : (match v with | .bool _ | .int _ _ | .string _ => true | _ => false) = true) : eqv v v = true := by
  cases v <;> simp at h <;> simp [eqv]
  rename_i s
  rw [beq_toListBytes]
  simp
def plainC : List Value → Bool
  | [] => true
  | v :: r => (match v with | .bool _ | .int _ _ | .string _ => true | _ => false) && plainC r
theorem eqC_refl : ∀ {l : List Value}, plainC l = true → eqC l l = true
  | [], _ => rfl
  | v :: r, h => by
    simp only [plainC, Bool.and_eq_true] at h
    simp only [eqC, eqv_refl v h.1, eqC_refl h.2, Bool.and_true]
theorem Bod.eqB_refl (x : Bod) : Bod.eqB x x = true := by
  unfold Bod.eqB
  rw [eqC_refl (l := x.req.vals) rfl, eqC_refl (l := b32 x.dig) rfl]
  simp
theorem Msg.eqB_refl (m : Msg) : Msg.eqB m m = true := by
  unfold Msg.eqB
  rw [eqC_refl (l := v11 m.deps) rfl, eqC_refl (l := b32 m.tag) rfl, Bod.eqB_refl]
  simp
theorem eq32_refl (t : Nat → UInt8) : eq32 t t = true := eqC_refl (l := b32 t) rfl
section
variable (f : Frag) (F : List HP)
theorem rsameM_fn {x y : MV} (hx : x.Good f) (hy : y.Good f) : Fn Tryz.prog 30 [.agg x.vals.toArray, .agg y.vals.toArray] f F (Ret (.bool (Msg.eqB x.m y.m)) f F) := by
  by_cases h1 : x.m.origin = y.m.origin
  · skip
    by_cases h2 : x.m.number = y.m.number
    · skip
      by_cases h3 : eqC (v11 x.m.deps) (v11 y.m.deps) = true
      · skip
        by_cases h4 : Bod.eqB x.m.body y.m.body = true
        · skip
          try simp only [Bool.not_eq_true] at *
          refine Fn.enter Tryz.func30 rfl Tryz.ntmps30 rfl (L := [(0, _), (1, _)]) ⟨rfl, rfl, trivial⟩ fun base => ?_
          repeat (first | ((first | apply H.move | apply H.assign); (iterate 3 exact rfl)) | (apply H.fieldAddr; (iterate 3 exact rfl); exact inferInstance; exact rfl) | (apply H.load1; (iterate 3 exact rfl); apply Rd1.ofRow; (repeat (first | exact .here _ _ _ | apply At.there)); (iterate 2 exact rfl)) | (first | apply H.seq | apply H.region | apply H.nil | apply H.then_normal) | ((apply H.cmp); (iterate 5 exact rfl)) | (apply H.pickT; (iterate 4 exact rfl)) | (apply H.ret) | (apply H.gyes; (iterate 3 exact rfl); (assumption)) | ((apply H.gtrue); (iterate 3 exact rfl); assumption) | (refine H.box (ls := x.vals) rfl rfl rfl rfl fun ab => ?_) | (refine H.box (ls := y.vals) rfl rfl rfl rfl fun bb => ?_) | (refine H.loadN (ls := v11 x.m.deps) rfl rfl rfl (msg_deps (by repeat (first | exact .here _ _ _ | apply At.there))) rfl rfl ?_) | (refine H.loadN (ls := v11 y.m.deps) rfl rfl rfl (msg_deps (by repeat (first | exact .here _ _ _ | apply At.there))) rfl rfl ?_) | (refine H.aggEq (xs := v11 x.m.deps) (ys := v11 y.m.deps) (D := 4) rfl rfl rfl rfl (by kernel_rfl) (by kernel_rfl) (by kernel_rfl) (by kernel_rfl) (by decide) rfl rfl ?_) | (refine H.loadN (ls := x.m.body.vals x.qp x.qc) rfl rfl rfl (msg_body (by repeat (first | exact .here _ _ _ | apply At.there))) rfl rfl ?_) | (refine H.loadN (ls := y.m.body.vals y.qp y.qc) rfl rfl rfl (msg_body (by repeat (first | exact .here _ _ _ | apply At.there))) rfl rfl ?_) | (refine H.callR rfl rfl rfl (rsame_fn f _ hx.1 hy.1 (by have := hx.2.1; omega)) ?_) | (refine H.loadN (ls := b32 x.m.tag) rfl rfl rfl (msg_tag (by repeat (first | exact .here _ _ _ | apply At.there))) rfl rfl ?_) | (refine H.loadN (ls := b32 y.m.tag) rfl rfl rfl (msg_tag (by repeat (first | exact .here _ _ _ | apply At.there))) rfl rfl ?_) | (refine H.aggEq (xs := b32 x.m.tag) (ys := b32 y.m.tag) (D := 4) rfl rfl rfl rfl (by kernel_rfl) (by kernel_rfl) (by kernel_rfl) (by kernel_rfl) (by decide) rfl rfl ?_))
          refine H.drop (.here _ _) ?_
          refine H.drop (.here _ _) ?_
          refine H.ret1 rfl rfl (fun _ h => h) ⟨?_, rfl, rfl⟩
          simp [Msg.eqB, *]
        · skip
          try simp only [Bool.not_eq_true] at *
          refine Fn.enter Tryz.func30 rfl Tryz.ntmps30 rfl (L := [(0, _), (1, _)]) ⟨rfl, rfl, trivial⟩ fun base => ?_
          repeat (first | ((first | apply H.move | apply H.assign); (iterate 3 exact rfl)) | (apply H.fieldAddr; (iterate 3 exact rfl); exact inferInstance; exact rfl) | (apply H.load1; (iterate 3 exact rfl); apply Rd1.ofRow; (repeat (first | exact .here _ _ _ | apply At.there)); (iterate 2 exact rfl)) | (first | apply H.seq | apply H.region | apply H.nil | apply H.then_normal) | ((apply H.cmp); (iterate 5 exact rfl)) | (apply H.pass; (iterate 2 exact rfl)) | (apply H.pickT; (iterate 4 exact rfl)) | ((apply H.pickF); (iterate 4 exact rfl)) | (apply H.ret) | (apply H.gyes; (iterate 3 exact rfl); (assumption)) | ((apply H.gtrue); (iterate 3 exact rfl); assumption) | (apply H.gfalse; (iterate 3 exact rfl); assumption) | (refine H.box (ls := x.vals) rfl rfl rfl rfl fun ab => ?_) | (refine H.box (ls := y.vals) rfl rfl rfl rfl fun bb => ?_) | (refine H.loadN (ls := v11 x.m.deps) rfl rfl rfl (msg_deps (by repeat (first | exact .here _ _ _ | apply At.there))) rfl rfl ?_) | (refine H.loadN (ls := v11 y.m.deps) rfl rfl rfl (msg_deps (by repeat (first | exact .here _ _ _ | apply At.there))) rfl rfl ?_) | (refine H.aggEq (xs := v11 x.m.deps) (ys := v11 y.m.deps) (D := 4) rfl rfl rfl rfl (by kernel_rfl) (by kernel_rfl) (by kernel_rfl) (by kernel_rfl) (by decide) rfl rfl ?_) | (refine H.loadN (ls := x.m.body.vals x.qp x.qc) rfl rfl rfl (msg_body (by repeat (first | exact .here _ _ _ | apply At.there))) rfl rfl ?_) | (refine H.loadN (ls := y.m.body.vals y.qp y.qc) rfl rfl rfl (msg_body (by repeat (first | exact .here _ _ _ | apply At.there))) rfl rfl ?_) | (refine H.callR rfl rfl rfl (rsame_fn f _ hx.1 hy.1 (by have := hx.2.1; omega)) ?_))
          refine H.drop (.here _ _) ?_
          refine H.drop (.here _ _) ?_
          refine H.ret1 rfl rfl (fun _ h => h) ⟨?_, rfl, rfl⟩
          simp [Msg.eqB, *]
      · skip
        try simp only [Bool.not_eq_true] at *
        refine Fn.enter Tryz.func30 rfl Tryz.ntmps30 rfl (L := [(0, _), (1, _)]) ⟨rfl, rfl, trivial⟩ fun base => ?_
        repeat (first | ((first | apply H.move | apply H.assign); (iterate 3 exact rfl)) | (apply H.fieldAddr; (iterate 3 exact rfl); exact inferInstance; exact rfl) | (apply H.load1; (iterate 3 exact rfl); apply Rd1.ofRow; (repeat (first | exact .here _ _ _ | apply At.there)); (iterate 2 exact rfl)) | (first | apply H.seq | apply H.region | apply H.nil | apply H.then_normal) | ((apply H.cmp); (iterate 5 exact rfl)) | (apply H.pass; (iterate 2 exact rfl)) | (apply H.pickT; (iterate 4 exact rfl)) | ((apply H.pickF); (iterate 4 exact rfl)) | (apply H.ret) | (apply H.gyes; (iterate 3 exact rfl); (assumption)) | (apply H.gfalse; (iterate 3 exact rfl); assumption) | (refine H.box (ls := x.vals) rfl rfl rfl rfl fun ab => ?_) | (refine H.box (ls := y.vals) rfl rfl rfl rfl fun bb => ?_) | (refine H.loadN (ls := v11 x.m.deps) rfl rfl rfl (msg_deps (by repeat (first | exact .here _ _ _ | apply At.there))) rfl rfl ?_) | (refine H.loadN (ls := v11 y.m.deps) rfl rfl rfl (msg_deps (by repeat (first | exact .here _ _ _ | apply At.there))) rfl rfl ?_) | (refine H.aggEq (xs := v11 x.m.deps) (ys := v11 y.m.deps) (D := 4) rfl rfl rfl rfl (by kernel_rfl) (by kernel_rfl) (by kernel_rfl) (by kernel_rfl) (by decide) rfl rfl ?_))
        refine H.drop (.here _ _) ?_
        refine H.drop (.here _ _) ?_
        refine H.ret1 rfl rfl (fun _ h => h) ⟨?_, rfl, rfl⟩
        simp [Msg.eqB, *]
    · skip
      try simp only [Bool.not_eq_true] at *
      refine Fn.enter Tryz.func30 rfl Tryz.ntmps30 rfl (L := [(0, _), (1, _)]) ⟨rfl, rfl, trivial⟩ fun base => ?_
      repeat (first | ((first | apply H.move | apply H.assign); (iterate 3 exact rfl)) | (apply H.fieldAddr; (iterate 3 exact rfl); exact inferInstance; exact rfl) | (apply H.load1; (iterate 3 exact rfl); apply Rd1.ofRow; (repeat (first | exact .here _ _ _ | apply At.there)); (iterate 2 exact rfl)) | (first | apply H.seq | apply H.region | apply H.nil | apply H.then_normal) | ((apply H.cmp); (iterate 5 exact rfl)) | (apply H.pass; (iterate 2 exact rfl)) | (apply H.pickT; (iterate 4 exact rfl)) | ((apply H.pickF); (iterate 4 exact rfl)) | (apply H.ret) | (apply H.gyes; (iterate 3 exact rfl); (assumption)) | (apply H.gno; (iterate 3 exact rfl); (assumption)) | (refine H.box (ls := x.vals) rfl rfl rfl rfl fun ab => ?_) | (refine H.box (ls := y.vals) rfl rfl rfl rfl fun bb => ?_))
      refine H.drop (.here _ _) ?_
      refine H.drop (.here _ _) ?_
      refine H.ret1 rfl rfl (fun _ h => h) ⟨?_, rfl, rfl⟩
      simp [Msg.eqB, *]
  · skip
    try simp only [Bool.not_eq_true] at *
    refine Fn.enter Tryz.func30 rfl Tryz.ntmps30 rfl (L := [(0, _), (1, _)]) ⟨rfl, rfl, trivial⟩ fun base => ?_
    repeat (first | ((first | apply H.move | apply H.assign); (iterate 3 exact rfl)) | (apply H.fieldAddr; (iterate 3 exact rfl); exact inferInstance; exact rfl) | (apply H.load1; (iterate 3 exact rfl); apply Rd1.ofRow; (repeat (first | exact .here _ _ _ | apply At.there)); (iterate 2 exact rfl)) | (first | apply H.seq | apply H.region | apply H.nil | apply H.then_normal) | ((apply H.cmp); (iterate 5 exact rfl)) | (apply H.pass; (iterate 2 exact rfl)) | ((apply H.pickF); (iterate 4 exact rfl)) | (apply H.ret) | (apply H.gno; (iterate 3 exact rfl); (assumption)) | (refine H.box (ls := x.vals) rfl rfl rfl rfl fun ab => ?_) | (refine H.box (ls := y.vals) rfl rfl rfl rfl fun bb => ?_))
    refine H.drop (.here _ _) ?_
    refine H.drop (.here _ _) ?_
    refine H.ret1 rfl rfl (fun _ h => h) ⟨?_, rfl, rfl⟩
    simp [Msg.eqB, *]
end
end Go.Proofs.YtoigpgdmignaoaaGreatDoor

/- Layer 8: a message that a law is given. -/
namespace Go.Proofs.YtoigpgdmignaoaaGreatDoor
open Go Go.ChangeShapes Go.WideShapes Go.RowKit Go.Deep
/-! ### Cells of arrays, strings and structs -/
theorem Reads.string {P : Program} {W : World} {t : TypeId} {cs : List Value} (ht : P.underlying t = some .string) (h : Reads P W t cs) : ∃ s : ByteArray, cs = [.string s] ∧ s.size ≤ maxLen := by
  obtain ⟨H', enc, b, sp, hd, n, x, h⟩ := h
  obtain ⟨s, h1, _, h2⟩ := DataW.trod_string ht h
  exact ⟨s, h1, h2⟩
theorem pieces_one : ∀ (n : Nat) (cs : List Value) (g : Nat → Value), cs.length = n → (∀ i, i < n → (cs.drop i).take 1 = [g i]) → cs = (List.range n).map g := by
  intro n cs g hl h
  apply List.ext_getElem?
  intro i
  rw [List.getElem?_map]
  by_cases hi : i < n
  · rw [List.getElem?_range hi]
    have h1 := congrArg (fun l => l[0]?) (h i hi)
    simp only [List.getElem?_take, List.getElem?_drop] at h1
    simpa using h1
  · rw [List.getElem?_eq_none (by omega), List.getElem?_eq_none (by simpa using hi)]; rfl
theorem Reads.ints {P : Program} {W : World} {t e : TypeId} {n : Nat} {k : IntKind} {cs : List Value} (ht : P.underlying t = some (.array n e)) (he : P.underlying e = some (.int k)) (h1 : P.cellsOf e = 1) (hn : P.cellsOf t = n) (h : Reads P W t cs) :
    ∃ d : Nat → Int, cs = (List.range n).map (fun i => .int k (d i)) ∧ ∀ i, i < n → k.min ≤ d i ∧ d i ≤ k.max := by
  obtain ⟨H', enc, b, sp, hd, fu, x, h⟩ := h
  obtain ⟨xs, m, rfl, rfl, hlen, hl, hel⟩ := DataW.trod_array ht h
  have key : ∀ i, ∃ z, i < n → (cs.drop i).take 1 = [.int k z] ∧ k.min ≤ z ∧ z ≤ k.max := fun i => by
    by_cases hi : i < n
    · have h2 := hel i hi
      rw [h1, Nat.mul_one, List.getElem?_eq_getElem (by omega)] at h2
      have h3 : Reads P W e ((cs.drop i).take 1) := ⟨H', enc, b, sp, hd, m, _, h2⟩
      obtain ⟨z, e1, e2⟩ := h3.int he
      exact ⟨z, fun _ => ⟨e1, e2⟩⟩
    · exact ⟨0, fun h => absurd h hi⟩
  refine ⟨fun i => (key i).choose, pieces_one n cs (fun i => .int k (key i).choose) (by rw [hlen, hn]) fun i hi => ((key i).choose_spec hi).1, fun i hi => ((key i).choose_spec hi).2⟩
def AllReads (P : Program) (W : World) : List TypeId → List (List Value) → Prop
  | [], [] => True
  | t :: ts, p :: ps => Reads P W t p ∧ AllReads P W ts ps
  | _, _ => False
def contigB (P : Program) (end_ : Nat) : List Field → Nat → Bool
  | [], a => Nat.beq a end_
  | f :: r, a => Nat.beq f.offset a && contigB P end_ r (a + P.cellsOf f.type)
theorem parts_of {P : Program} {W : World} {cs : List Value} {m : Nat} (hm : cs.length = m) : ∀ (l : List Field) (a : Nat), (∀ f ∈ l, Reads P W f.type ((cs.drop f.offset).take (P.cellsOf f.type))) → contigB P m l a = true →
    ∃ ps : List (List Value), cs.drop a = ps.flatten ∧ AllReads P W (l.map (·.type)) ps
  | [], a, _, hc => ⟨[], by
      have : a = m := Nat.eq_of_beq_eq_true hc
      rw [List.drop_eq_nil_of_le (by omega)]; rfl, trivial⟩
  | f :: r, a, h, hc => by
    simp only [contigB, Bool.and_eq_true] at hc
    have e : f.offset = a := Nat.eq_of_beq_eq_true hc.1
    obtain ⟨ps, e1, e2⟩ := parts_of hm r (a + P.cellsOf f.type) (fun x hx => h x (by simp [hx])) hc.2
    have h0 := h f (by simp)
    rw [e] at h0
    refine ⟨(cs.drop a).take (P.cellsOf f.type) :: ps, ?_, h0, e2⟩
    rw [List.flatten_cons, ← e1, ← List.drop_drop, List.take_append_drop]
theorem Reads.parts {P : Program} {W : World} {t : TypeId} {cs : List Value} {fs : List Field} (ht : P.underlying t = some (.struct fs.toArray)) (hc : contigB P (P.cellsOf t) fs 0 = true) (h : Reads P W t cs) :
    ∃ ps : List (List Value), cs = ps.flatten ∧ AllReads P W (fs.map (·.type)) ps := by
  obtain ⟨h1, h2⟩ := h.struct ht
  obtain ⟨ps, e1, e2⟩ := parts_of (P := P) (W := W) h1 fs 0 (fun f hf => by
    obtain ⟨i, hi⟩ := List.getElem?_of_mem hf
    exact h2 i f (by simpa using hi)) hc
  exact ⟨ps, by simpa using e1, e2⟩
/-! ### Messages, packets, steps -/
theorem u8_back {z : Int} (h : IntKind.min .u8 ≤ z ∧ z ≤ IntKind.max .u8) : (((UInt8.ofNat z.toNat).toNat : Nat) : Int) = z := by
  have h1 : (0 : Int) ≤ z := h.1
  have h2 : z ≤ 255 := h.2
  rw [UInt8.toNat_ofNat']
  omega
theorem reads_vecT {W : World} {cs : List Value} (h : Reads Tryz.prog W 37 cs) : ∃ d : Nat → Int, (∀ i, i < 11 → 0 ≤ d i ∧ d i ≤ 18446744073709551615) ∧ cs = v11 d := by
  obtain ⟨d, e, hd⟩ := h.ints Tryz.underlying37 Tryz.underlying35 (by kernel_rfl) (by kernel_rfl)
  exact ⟨d, fun i hi => hd i hi, e⟩
theorem reads_vec {W : World} {cs : List Value} (h : Reads Tryz.prog W 37 cs) : ∃ d : Nat → Int, cs = v11 d := by
  obtain ⟨d, _, e⟩ := reads_vecT h
  exact ⟨d, e⟩
theorem reads_32 {W : World} {cs : List Value} (h : Reads Tryz.prog W 40 cs) : ∃ d : Nat → UInt8, cs = b32 d := by
  obtain ⟨d, e, hb⟩ := h.ints Tryz.underlying40 Tryz.underlying5 (by kernel_rfl) (by kernel_rfl)
  refine ⟨fun i => UInt8.ofNat (d i).toNat, ?_⟩
  have e2 : b32 (fun i => UInt8.ofNat (d i).toNat) = (List.range 32).map (fun i => Value.int .u8 ((UInt8.ofNat (d i).toNat).toNat : Nat)) := rfl
  rw [e, e2]
  refine List.map_congr_left fun i hi => ?_
  rw [List.mem_range] at hi
  rw [u8_back (hb i hi)]
theorem reads_pair {W : World} {cs : List Value} (h : Reads Tryz.prog W 61 cs) : ∃ x : Int × Int, True ∧ cs = pairV x := by
  obtain ⟨ps, rfl, hh⟩ := h.parts Tryz.underlying61 (by kernel_rfl)
  have h : AllReads Tryz.prog W [3, 35] ps := hh
  match ps, h with
  | [p0, p1], ⟨r0, r1, _⟩ =>
    obtain ⟨z0, rfl, _⟩ := r0.int Tryz.underlying3
    obtain ⟨z1, rfl, _⟩ := r1.int Tryz.underlying35
    exact ⟨(z0, z1), trivial, rfl⟩
theorem reads_op {W : World} {cs : List Value} (h : Reads Tryz.prog W 39 cs) : ∃ (k : UInt8) (a b c d : ByteArray) (n : Int), cs = [.int .u8 (k.toNat : Nat), .string a, .string b, .string c, .string d, .int .u64 n] ∧ 0 ≤ n ∧ n ≤ 18446744073709551615 := by
  obtain ⟨ps, rfl, hh⟩ := h.parts Tryz.underlying39 (by kernel_rfl)
  have h : AllReads Tryz.prog W [5, 9, 9, 9, 9, 35] ps := hh
  match ps, h with
  | [p0, p1, p2, p3, p4, p5], ⟨r0, r1, r2, r3, r4, r5, _⟩ =>
    obtain ⟨z0, rfl, hz⟩ := r0.int Tryz.underlying5
    obtain ⟨s1, rfl, _⟩ := r1.string Tryz.underlying9
    obtain ⟨s2, rfl, _⟩ := r2.string Tryz.underlying9
    obtain ⟨s3, rfl, _⟩ := r3.string Tryz.underlying9
    obtain ⟨s4, rfl, _⟩ := r4.string Tryz.underlying9
    obtain ⟨z5, rfl, h5⟩ := r5.int Tryz.underlying35
    refine ⟨UInt8.ofNat z0.toNat, s1, s2, s3, s4, z5, ?_, h5⟩
    rw [u8_back hz]
    rfl
theorem reads_req {W : World} {cs : List Value} (h : Reads Tryz.prog W 42 cs) : ∃ r : Req, r.Ok ∧ cs = r.vals := by
  obtain ⟨ps, rfl, hh⟩ := h.parts Tryz.underlying42 (by kernel_rfl)
  have h : AllReads Tryz.prog W [3, 35, 39, 40] ps := hh
  match ps, h with
  | [p0, p1, p2, p3], ⟨r0, r1, r2, r3, _⟩ =>
    obtain ⟨z0, rfl, _⟩ := r0.int Tryz.underlying3
    obtain ⟨z1, rfl, h1⟩ := r1.int Tryz.underlying35
    obtain ⟨k, a, b, c, d, n, rfl, hn⟩ := reads_op r2
    obtain ⟨t, rfl⟩ := reads_32 r3
    exact ⟨⟨z0, z1, k, a, b, c, d, n, t⟩, ⟨h1, hn⟩, rfl⟩
theorem reads_body {W : World} {cs : List Value} (h : Reads Tryz.prog W 45 cs) : ∃ (x : Bod) (q : Option Addr) (c : Nat), x.Ok ∧ QAt (memOf W) q x.q ∧ cs = x.vals q c := by
  obtain ⟨ps, rfl, hh⟩ := h.parts Tryz.underlying45 (by kernel_rfl)
  have h : AllReads Tryz.prog W [5, 35, 35, 42, 43, 40] ps := hh
  match ps, h with
  | [p0, p1, p2, p3, p4, p5], ⟨r0, r1, r2, r3, r4, r5, _⟩ =>
    obtain ⟨z0, rfl, hz⟩ := r0.int Tryz.underlying5
    obtain ⟨z1, rfl, h1⟩ := r1.int Tryz.underlying35
    obtain ⟨z2, rfl, h2⟩ := r2.int Tryz.underlying35
    obtain ⟨r, hr, rfl⟩ := reads_req r3
    obtain ⟨p, c, xs, rfl, _, _, _, hat⟩ := r4.list (sz := 2) Tryz.underlying43 (by kernel_rfl) (by decide) fun cs => reads_pair
    obtain ⟨t, rfl⟩ := reads_32 r5
    refine ⟨⟨UInt8.ofNat z0.toNat, z1, z2, r, xs, t⟩, p, c, ⟨h1, h2, hr⟩, hat, ?_⟩
    unfold Bod.vals
    rw [u8_back hz]
    rfl
def MV.Has (f : Frag) (x : MV) : Prop := QAt f x.qp x.m.body.q ∧ x.m.body.Ok
def Msg.Typ (m : Msg) : Prop := m.body.Ok ∧ ∀ i, i < 11 → 0 ≤ m.deps i
theorem reads_msgT {W : World} {cs : List Value} (h : Reads Tryz.prog W 47 cs) : ∃ x : MV, x.Has (memOf W) ∧ x.m.Typ ∧ cs = x.vals := by
  obtain ⟨ps, rfl, hh⟩ := h.parts Tryz.underlying47 (by kernel_rfl)
  have h : AllReads Tryz.prog W [3, 35, 37, 45, 40] ps := hh
  match ps, h with
  | [p0, p1, p2, p3, p4], ⟨r0, r1, r2, r3, r4, _⟩ =>
    obtain ⟨z0, rfl, _⟩ := r0.int Tryz.underlying3
    obtain ⟨z1, rfl, _⟩ := r1.int Tryz.underlying35
    obtain ⟨d, hd, rfl⟩ := reads_vecT r2
    obtain ⟨x, q, c, hx, hq, rfl⟩ := reads_body r3
    obtain ⟨t, rfl⟩ := reads_32 r4
    exact ⟨⟨⟨z0, z1, d, x, t⟩, q, c⟩, ⟨hq, hx⟩, ⟨hx, fun i hi => (hd i hi).1⟩, rfl⟩
end Go.Proofs.YtoigpgdmignaoaaGreatDoor

/- Layer 8, plain: messages that nobody tells apart have the same bytes. No program in sight. -/
namespace Go.Proofs.YtoigpgdmignaoaaGreatDoor
open Go
/-! ### Cells that are told apart by eqC alone -/
def kdV : Value → Value
  | .int k _ => .int k 0
  | .string _ => .bool true
  | .bool _ => .bool false
  | v => v
theorem eqv_eq {a b : Value} (h : eqv a b = true) (hk : kdV a = kdV b) : a = b := by
  cases a with
  | bool x =>
    cases b <;> simp [eqv] at h
    subst h; rfl
  | int k x =>
    cases b with
    | int l y =>
      simp [eqv] at h
      simp [kdV] at hk
      subst h; subst hk; rfl
    | _ => simp [eqv] at h
  | string x =>
    cases b with
    | string y =>
      simp only [eqv] at h
      rw [beq_toListBytes, ByteArray.toList_eq, ByteArray.toList_eq, beq_iff_eq] at h
      rw [show x = y from ByteArray.ext (Array.ext' h)]
    | _ => simp [eqv] at h
  | _ => simp [eqv] at h
theorem eqC_eq : ∀ {a b : List Value}, eqC a b = true → a.map kdV = b.map kdV → a = b
  | [], [], _, _ => rfl
  | [], _ :: _, h, _ => by simp [eqC] at h
  | _ :: _, [], h, _ => by simp [eqC] at h
  | x :: xs, y :: ys, h, hk => by
    simp only [eqC, Bool.and_eq_true] at h
    simp only [List.map_cons, List.cons.injEq] at hk
    rw [eqv_eq h.1 hk.1, eqC_eq h.2 hk.2]
theorem u8_inj {a b : UInt8} (h : Value.int .u8 (a.toNat : Nat) = Value.int .u8 (b.toNat : Nat)) : a = b := by
  simp only [Value.int.injEq, true_and] at h
  exact UInt8.toNat_inj.1 (by omega)
theorem bytesV_inj : ∀ {a b : List UInt8}, bytesV a = bytesV b → a = b
  | [], [], _ => rfl
  | [], _ :: _, h => by simp [bytesV] at h
  | _ :: _, [], h => by simp [bytesV] at h
  | x :: xs, y :: ys, h => by
    simp only [bytesV, List.map_cons, List.cons.injEq] at h
    rw [u8_inj h.1, bytesV_inj h.2]
theorem b32_L {a b : Nat → UInt8} (h : b32 a = b32 b) : b32L a = b32L b := bytesV_inj (by rw [← b32_bytes, ← b32_bytes]; exact h)
theorem eq32_iff {a b : Nat → UInt8} : eqC (b32 a) (b32 b) = true ↔ b32 a = b32 b :=
  ⟨fun h => eqC_eq h rfl, fun h => by rw [h]; exact eq32_refl b⟩
theorem v11_iff {a b : Nat → Int} : v11 a = v11 b ↔ ∀ i, i < 11 → a i = b i := by
  constructor
  · intro h i hi
    have h1 := v11_get a hi
    have h2 := v11_get b hi
    rw [h, h2] at h1
    simp only [Option.some.injEq, Value.int.injEq, true_and] at h1
    exact h1.symm
  · intro h
    unfold v11
    rw [h 0 (by decide), h 1 (by decide), h 2 (by decide), h 3 (by decide), h 4 (by decide), h 5 (by decide), h 6 (by decide), h 7 (by decide), h 8 (by decide), h 9 (by decide), h 10 (by decide)]
theorem eqReq_iff {a b : Req} : eqC a.vals b.vals = true ↔ a.vals = b.vals :=
  ⟨fun h => eqC_eq h rfl, fun h => by rw [h]; exact eqC_refl rfl⟩
theorem Bod.E.refl (a : Bod) : Bod.E a a := ⟨rfl, rfl, rfl, rfl, rfl, rfl⟩
theorem Bod.E.symm {a b : Bod} (h : Bod.E a b) : Bod.E b a := ⟨h.1.symm, h.2.1.symm, h.2.2.1.symm, h.2.2.2.1.symm, h.2.2.2.2.1.symm, h.2.2.2.2.2.symm⟩
theorem Bod.E.trans {a b c : Bod} (h : Bod.E a b) (g : Bod.E b c) : Bod.E a c := ⟨h.1.trans g.1, h.2.1.trans g.2.1, h.2.2.1.trans g.2.2.1, h.2.2.2.1.trans g.2.2.2.1, h.2.2.2.2.1.trans g.2.2.2.2.1, h.2.2.2.2.2.trans g.2.2.2.2.2⟩
theorem Bod.eqB_iff {a b : Bod} : Bod.eqB a b = true ↔ Bod.E a b := by
  unfold Bod.eqB Bod.E
  rw [Bool.and_eq_true, Bool.and_eq_true, Bool.and_eq_true, Bool.and_eq_true, Bool.and_eq_true, decide_eq_true_eq, decide_eq_true_eq, decide_eq_true_eq, decide_eq_true_eq, eqReq_iff, eq32_iff]
  constructor
  · rintro ⟨⟨⟨⟨⟨h1, h2⟩, h3⟩, h4⟩, h5⟩, h6⟩
    exact ⟨UInt8.toNat_inj.1 (by omega), h2, h3, h4, h5, h6⟩
  · rintro ⟨h1, h2, h3, h4, h5, h6⟩
    exact ⟨⟨⟨⟨⟨by rw [h1], h2⟩, h3⟩, h4⟩, h5⟩, h6⟩
/-! ### What the same bodies, and messages, have in common -/
theorem Req.vals_inj {a b : Req} (h : a.vals = b.vals) : a.client = b.client ∧ a.time = b.time ∧ a.kind = b.kind ∧ a.key = b.key ∧ a.val = b.val ∧ a.old = b.old ∧ a.to = b.to ∧ a.amount = b.amount ∧ b32 a.tag = b32 b.tag := by
  unfold Req.vals at h
  have h1 := List.append_inj h rfl
  have h2 := h1.1
  simp only [List.cons.injEq, Value.int.injEq, Value.string.injEq, true_and, and_true] at h2
  obtain ⟨a1, a2, a3, a4, a5, a6, a7, a8⟩ := h2
  exact ⟨a1, a2, UInt8.toNat_inj.1 (by omega), a4, a5, a6, a7, a8, h1.2⟩
theorem Req.bytes_congr {a b : Req} (h : a.vals = b.vals) : a.bytes = b.bytes ∧ (a.asked ↔ b.asked) ∧ b32L a.tag = b32L b.tag := by
  obtain ⟨h1, h2, h3, h4, h5, h6, h7, h8, h9⟩ := Req.vals_inj h
  unfold Req.bytes Req.head Req.asked
  rw [h1, h2, h3, h4, h5, h6, h7, h8]
  exact ⟨rfl, Iff.rfl, b32_L h9⟩
theorem Bod.mayK_congr {a b : Bod} (h : Bod.E a b) (k : Nat) : a.mayK k = b.mayK k := by
  obtain ⟨h1, h2, h3, h4, h5, h6⟩ := h
  obtain ⟨_, r2, _⟩ := Req.bytes_congr h4
  unfold Bod.mayK
  rw [h2, h3, h5, decide_eq_decide.2 r2]
theorem Bod.own_congr {a b : Bod} (h : Bod.E a b) : Bod.E a.own b.own := by
  obtain ⟨h1, h2, h3, h4, h5, h6⟩ := h
  unfold Bod.own
  rw [h1]
  generalize b.kind.toNat = k
  match k with
  | 0 => exact ⟨h1, rfl, rfl, rfl, rfl, rfl⟩
  | 1 => exact ⟨h1, h2, rfl, h4, rfl, rfl⟩
  | 2 => exact ⟨h1, h2, h3, rfl, rfl, rfl⟩
  | 3 => exact ⟨h1, h2, rfl, rfl, rfl, rfl⟩
  | 4 => exact ⟨h1, h2, rfl, rfl, h5, rfl⟩
  | 5 => exact ⟨h1, h2, rfl, rfl, rfl, rfl⟩
  | 6 => exact ⟨h1, rfl, h3, rfl, rfl, h6⟩
  | k + 7 => exact ⟨h1, rfl, rfl, rfl, rfl, rfl⟩
theorem Bod.may_congr {a b : Bod} (h : Bod.E a b) : a.may = b.may := by
  have h0 := Bod.own_congr h
  unfold Bod.may
  rw [Bod.mayK_congr h, h.1, h.2.1, Bool.eq_iff_iff.2 (Bod.eqB_iff.trans (Iff.trans ⟨fun g => h0.symm.trans (g.trans h), fun g => h0.trans (g.trans h.symm)⟩ Bod.eqB_iff.symm))]
theorem maxTo_congr {a b : Nat → Int} : ∀ n, (∀ i, i ≤ n → a i = b i) → maxTo a n = maxTo b n
  | 0, h => h 0 (Nat.le_refl _)
  | n + 1, h => by
    unfold maxTo
    rw [maxTo_congr n fun i hi => h i (by omega), h (n + 1) (Nat.le_refl _)]
def Msg.E0 (a b : Msg) : Prop := a.origin = b.origin ∧ a.number = b.number ∧ v11 a.deps = v11 b.deps ∧ Bod.E a.body b.body
theorem Msg.may_congr {a b : Msg} (h : Msg.E0 a b) : a.may = b.may := by
  obtain ⟨h1, h2, h3, h4⟩ := h
  have h5 := v11_iff.1 h3
  unfold Msg.may
  rw [Bod.may_congr h4]
  have e : a.outer ↔ b.outer := by
    unfold Msg.outer
    rw [h1, h2, maxTo_congr 10 fun i hi => h5 i (by omega)]
    constructor
    · rintro ⟨a1, a2, a3, a4, a5, a6⟩
      exact ⟨a1, a2, a3, a4, by rw [← h5 _ (by omega)]; exact a5, a6⟩
    · rintro ⟨a1, a2, a3, a4, a5, a6⟩
      exact ⟨a1, a2, a3, a4, by rw [h5 _ (by omega)]; exact a5, a6⟩
  rw [decide_eq_decide.2 e]
end Go.Proofs.YtoigpgdmignaoaaGreatDoor

/- The engine, part q: a family of things that are owned, one for each number below a bound; one of them is taken out, and put back. No program in sight; no conditions. -/
namespace Go.Proofs.YtoigpgdmignaoaaGreatDoor
open Go
def rngH (g : Nat → HP) : Nat → List HP
  | 0 => []
  | k + 1 => g k :: rngH g k
def fam (g : Nat → HP) (k : Nat) : HP := fun h => stars (rngH g k) h
def updF {α : Type} (g : Nat → α) (i : Nat) (x : α) : Nat → α := fun j => if j = i then x else g j
theorem updF_same {α : Type} (g : Nat → α) (i : Nat) (x : α) : updF g i x i = x := if_pos rfl
theorem updF_ne {α : Type} (g : Nat → α) {i j : Nat} (x : α) (h : j ≠ i) : updF g i x j = g j := if_neg h
theorem updF_self {α : Type} (g : Nat → α) (i : Nat) : updF g i (g i) = g := by
  funext j; unfold updF; split
  · rename_i h; rw [h]
  · rfl
theorem updF_updF {α : Type} (g : Nat → α) (i : Nat) (x y : α) : updF (updF g i x) i y = updF g i y := by
  funext j; unfold updF; split <;> rfl
theorem rngH_congr {g g' : Nat → HP} : ∀ k, (∀ j, j < k → g j = g' j) → rngH g k = rngH g' k
  | 0, _ => rfl
  | k + 1, h => by unfold rngH; rw [h k (by omega), rngH_congr k fun j hj => h j (by omega)]
theorem fam_pull {g : Nat → HP} {i : Nat} : ∀ {k : Nat}, i < k → stars (rngH g k) = star (g i) (stars (rngH (updF g i emp) k))
  | 0, h => by omega
  | k + 1, h => by
    by_cases e : i = k
    · subst e
      have e1 : rngH (updF g i emp) i = rngH g i := rngH_congr i fun j hj => updF_ne g emp (by omega)
      show star (g i) (stars (rngH g i)) = star (g i) (star (updF g i emp i) (stars (rngH (updF g i emp) i)))
      rw [updF_same, emp_star, e1]
    · show star (g k) (stars (rngH g k)) = star (g i) (star (updF g i emp k) (stars (rngH (updF g i emp) k)))
      rw [fam_pull (g := g) (i := i) (k := k) (by omega), updF_ne g emp (fun h => e h.symm), star_left_comm]
theorem fam_put {g : Nat → HP} {i k : Nat} {x : HP} (h : i < k) : star x (stars (rngH (updF g i emp) k)) = stars (rngH (updF g i x) k) := by
  rw [fam_pull (g := updF g i x) h, updF_same, updF_updF]
theorem fam_pullA {g : Nat → HP} {i k : Nat} (A : List HP) (h : i < k) : stars (fam g k :: A) = stars (g i :: fam (updF g i emp) k :: A) := by
  show star (stars (rngH g k)) (stars A) = star (g i) (star (stars (rngH (updF g i emp) k)) (stars A))
  rw [fam_pull h, star_assoc]
theorem fam_putA {g : Nat → HP} {i k : Nat} {x : HP} (A : List HP) (h : i < k) : stars (x :: fam (updF g i emp) k :: A) = stars (fam (updF g i x) k :: A) := by
  show star x (star (stars (rngH (updF g i emp) k)) (stars A)) = star (stars (rngH (updF g i x) k)) (stars A)
  rw [← star_assoc, fam_put h]
section
variable {P : Program} {base : World} {n : Nat} {L : Env} {f : Frag} {A : List HP} {K : Kont} {g : Nat → HP} {i k : Nat}
theorem H.famPull (h : i < k) (kk : H P base n L f (g i :: fam (updF g i emp) k :: A) K) : H P base n L f (fam g k :: A) K :=
  H.conv (fam_pullA A h) kk
theorem H.famPut {x : HP} (h : i < k) (kk : H P base n L f (fam (updF g i x) k :: A) K) : H P base n L f (x :: fam (updF g i emp) k :: A) K :=
  H.conv (fam_putA A h) kk
theorem H.famBack (h : i < k) (kk : H P base n L f (fam g k :: A) K) : H P base n L f (g i :: fam (updF g i emp) k :: A) K :=
  H.famPut h (by rw [updF_self]; exact kk)
end
def c11 (g : Nat → Value) : List Value := [g 0, g 1, g 2, g 3, g 4, g 5, g 6, g 7, g 8, g 9, g 10]
theorem c11_get (g : Nat → Value) {i : Nat} (h : i < 11) : (c11 g)[i]? = some (g i) := by
  match i, h with
  | 0, _ => rfl
  | 1, _ => rfl
  | 2, _ => rfl
  | 3, _ => rfl
  | 4, _ => rfl
  | 5, _ => rfl
  | 6, _ => rfl
  | 7, _ => rfl
  | 8, _ => rfl
  | 9, _ => rfl
  | 10, _ => rfl
theorem c11_set (g : Nat → Value) {i : Nat} (v : Value) (h : i < 11) : SetV (c11 g) i v (c11 (updF g i v)) := by
  have e : c11 (updF g i v) = (c11 g).set i v := by
    match i, h with
    | 0, _ => rfl
    | 1, _ => rfl
    | 2, _ => rfl
    | 3, _ => rfl
    | 4, _ => rfl
    | 5, _ => rfl
    | 6, _ => rfl
    | 7, _ => rfl
    | 8, _ => rfl
    | 9, _ => rfl
    | 10, _ => rfl
  rw [e]
  exact SetV.mk v h
end Go.Proofs.YtoigpgdmignaoaaGreatDoor

/- Layer 12, plain: what a lore answers, by its streams; messages of a world are all taken. No program in sight. -/
namespace Go.Proofs.YtoigpgdmignaoaaGreatDoor
open Go
abbrev Strm := Nat → List Msg
def aboveB (a b : Nat → Int) : Bool := (List.range 11).any fun i => decide (b i < a i)
def knownS (S : Strm) : Nat → Int := fun i => ((S i).length : Nat)
def orgI (m : Msg) : Nat := (m.origin - 1).toNat
def fitsB (n : Nat) (m : Msg) : Bool := m.may && (decide (m.origin ≤ (n : Int)) && (m.body.q.all (fun p => decide (p.1 ≤ (n : Int))) && (List.range 11).all (fun i => decide (i < n) || decide (m.deps i ≤ 0))))
def lastD (l : List Msg) : Nat → Int := match l.getLast? with
  | some x => x.deps
  | none => fun _ => 0
def chk (n : Nat) (S : Strm) (m : Msg) : Int :=
  if fitsB n m = false then 1 else if m.right = false then 11 else
  if m.number ≤ ((S (orgI m)).length : Nat) then 13 else
  if m.number = (((S (orgI m)).length + 1 : Nat) : Int) ∧ 0 < (S (orgI m)).length ∧ aboveB (lastD (S (orgI m))) m.deps = true then 1 else
  if (((S (orgI m)).length + 1 : Nat) : Int) < m.number ∨ aboveB m.deps (knownS S) = true then 12 else 0
def addS (S : Strm) (m : Msg) : Strm := updF S (orgI m) (S (orgI m) ++ [m])
theorem aboveB_false {a b : Nat → Int} : aboveB a b = false ↔ ∀ i, i < 11 → a i ≤ b i := by
  unfold aboveB
  rw [List.any_eq_false]
  constructor
  · intro h i hi
    have := h i (List.mem_range.2 hi)
    simp only [decide_eq_true_eq] at this
    omega
  · intro h i hi
    have := h i (List.mem_range.1 hi)
    simp only [decide_eq_true_eq]
    omega
/-! ### The streams of a list of messages -/
def strm (l : List Msg) : Strm := fun i => l.filter fun m => decide (orgI m = i)
theorem strm_snoc (l : List Msg) (m : Msg) : strm (l ++ [m]) = addS (strm l) m := by
  funext i
  unfold strm addS updF
  rw [List.filter_append]
  by_cases h : i = orgI m
  · rw [if_pos h, ← h]
    simp [h]
  · rw [if_neg h]
    have : decide (orgI m = i) = false := decide_eq_false fun e => h e.symm
    simp [this]
def cnt (l : List Msg) (i : Nat) : Nat := (strm l i).length
theorem cnt_snoc (l : List Msg) (m : Msg) (i : Nat) : cnt (l ++ [m]) i = cnt l i + (if i = orgI m then 1 else 0) := by
  unfold cnt
  rw [strm_snoc]
  unfold addS updF
  split
  · rename_i h; rw [h, List.length_append]; rfl
  · rfl
structure MOK (n : Nat) (pre : List Msg) (m : Msg) : Prop where
  org : 1 ≤ m.origin ∧ m.origin ≤ (n : Int)
  fits : fitsB n m = true
  right : m.right = true
  num : m.number = ((cnt pre (orgI m) + 1 : Nat) : Int)
  dep : ∀ i, i < 11 → 0 ≤ m.deps i ∧ m.deps i ≤ (cnt pre i : Nat)
  mono : ∀ x ∈ pre, orgI x = orgI m → ∀ i, i < 11 → x.deps i ≤ m.deps i
def WOK (n : Nat) (all : List Msg) : Prop := ∀ j m, all[j]? = some m → MOK n (all.take j) m
theorem WOK.snoc {n : Nat} {all : List Msg} {m : Msg} (h : WOK n all) (hm : MOK n all m) : WOK n (all ++ [m]) := fun j x hj => by
  rcases Nat.lt_or_ge j all.length with hlt | hge
  · rw [List.getElem?_append_left hlt] at hj
    rw [List.take_append_of_le_length (by omega)]
    exact h j x hj
  · rw [List.getElem?_append_right hge] at hj
    have e : j = all.length := by
      rcases Nat.eq_or_lt_of_le hge with e | e
      · exact e.symm
      · rw [List.getElem?_eq_none (by simp; omega)] at hj; cases hj
    subst e
    rw [Nat.sub_self] at hj
    simp at hj
    subst hj
    rw [List.take_left]
    exact hm
theorem WOK.nil (n : Nat) : WOK n [] := fun j m h => by simp at h
end Go.Proofs.YtoigpgdmignaoaaGreatDoor

/- Layer 12, plain: what is not known of a world, in the order in which it was made, is taken one by one. No program in sight. -/
namespace Go.Proofs.YtoigpgdmignaoaaGreatDoor
open Go
theorem take_snoc {α : Type} {l : List α} {k : Nat} {x : α} (h : l[k]? = some x) : l.take (k + 1) = l.take k ++ [x] := by
  rw [List.take_add_one, h]; rfl
theorem take_all {α : Type} (l : List α) : l.take l.length = l := List.take_length
theorem strm_num {n : Nat} {all : List Msg} (h : WOK n all) : ∀ k i p x, (strm (all.take k) i)[p]? = some x → x.number = ((p + 1 : Nat) : Int)
  | 0, i, p, x, hx => by simp [strm] at hx
  | k + 1, i, p, x, hx => by
    cases hm : all[k]? with
    | none =>
      have e : all.take (k + 1) = all.take k := by rw [List.take_add_one, hm]; simp
      rw [e] at hx
      exact strm_num h k i p x hx
    | some m =>
      have hok := h k m hm
      rw [take_snoc hm, strm_snoc] at hx
      unfold addS updF at hx
      by_cases hi : i = orgI m
      · rw [if_pos hi] at hx
        rcases Nat.lt_or_ge p (strm (all.take k) (orgI m)).length with hlt | hge
        · rw [List.getElem?_append_left hlt] at hx
          exact strm_num h k _ p x hx
        · rw [List.getElem?_append_right hge] at hx
          have e : p = (strm (all.take k) (orgI m)).length := by
            rcases Nat.eq_or_lt_of_le hge with e | e
            · exact e.symm
            · rw [List.getElem?_eq_none (by simp; omega)] at hx; cases hx
          subst e
          rw [Nat.sub_self] at hx
          simp at hx
          subst hx
          exact hok.num
      · rw [if_neg hi] at hx
        exact strm_num h k i p x hx
theorem strm_numA {n : Nat} {all : List Msg} (h : WOK n all) {i p : Nat} {x : Msg} (hx : (strm all i)[p]? = some x) : x.number = ((p + 1 : Nat) : Int) := by
  refine strm_num h all.length i p x ?_
  rw [take_all]; exact hx
theorem strm_mem {l : List Msg} {x : Msg} (hx : x ∈ l) : ∃ p : Nat, (strm l (orgI x))[p]? = some x := by
  have : x ∈ strm l (orgI x) := by unfold strm; rw [List.mem_filter]; exact ⟨hx, by simp⟩
  exact List.getElem?_of_mem this
theorem strm_org {l : List Msg} {i p : Nat} {x : Msg} (h : (strm l i)[p]? = some x) : x ∈ l ∧ orgI x = i := by
  have := List.mem_of_getElem? h
  unfold strm at this
  rw [List.mem_filter] at this
  exact ⟨this.1, of_decide_eq_true this.2⟩
def unk (u : Nat → Int) (l : List Msg) : List Msg := l.filter fun m => decide (u (orgI m) < m.number)
structure Knw (all : List Msg) (u : Nat → Int) : Prop where
  le : ∀ i, 0 ≤ u i ∧ u i ≤ (cnt all i : Nat)
  closed : ∀ x ∈ all, x.number ≤ u (orgI x) → ∀ i, i < 11 → x.deps i ≤ u i
end Go.Proofs.YtoigpgdmignaoaaGreatDoor

/- Layer 12, plain: a part of a world is taken; what is lacking is brought part by part. No program in sight. -/
namespace Go.Proofs.YtoigpgdmignaoaaGreatDoor
open Go
end Go.Proofs.YtoigpgdmignaoaaGreatDoor

/- Layer 12, plain: the document's worlds: what replicas say is taken by any lore that knows what they knew. No program in sight. -/
namespace Go.Proofs.YtoigpgdmignaoaaGreatDoor
open Go
structure W12 where
  kv : Nat → Nat → Int
  all : List Msg
def W12.zero : W12 := ⟨fun _ _ => 0, []⟩
structure WInv (n : Nat) (W : W12) : Prop where
  ok : WOK n W.all
  knw : ∀ r, r < n → Knw W.all (W.kv r)
  own : ∀ r, r < n → W.kv r r = (cnt W.all r : Nat)
theorem WInv.zero (n : Nat) : WInv n W12.zero := ⟨WOK.nil n, fun r _ => ⟨fun i => ⟨Int.le_refl _, by show (0 : Int) ≤ _; omega⟩, fun x hx => by cases hx⟩, fun r _ => rfl⟩
def maxV (a b : Nat → Int) : Nat → Int := fun i => if a i < b i then b i else a i
def W12.meet (W : W12) (o j : Nat) : W12 := { W with kv := updF W.kv o (maxV (W.kv o) (W.kv j)) }
theorem maxV_ge (a b : Nat → Int) (i : Nat) : a i ≤ maxV a b i ∧ b i ≤ maxV a b i ∧ (maxV a b i = a i ∨ maxV a b i = b i) := by
  unfold maxV; split <;> omega
theorem WInv.meet {n : Nat} {W : W12} (h : WInv n W) {o j : Nat} (ho : o < n) (hj : j < n) : WInv n (W.meet o j) := by
  have hkn : Knw W.all (maxV (W.kv o) (W.kv j)) := by
    refine ⟨fun i => ?_, fun x hx hn i hi => ?_⟩
    · have h1 := (h.knw o ho).le i
      have h2 := (h.knw j hj).le i
      have h3 := maxV_ge (W.kv o) (W.kv j) i
      rcases h3.2.2 with e | e <;> rw [e] <;> omega
    · have h3 := maxV_ge (W.kv o) (W.kv j) (orgI x)
      have h4 := maxV_ge (W.kv o) (W.kv j) i
      rcases h3.2.2 with e | e <;> rw [e] at hn
      · have := (h.knw o ho).closed x hx hn i hi
        omega
      · have := (h.knw j hj).closed x hx hn i hi
        omega
  refine ⟨h.ok, fun r hr => ?_, fun r hr => ?_⟩
  · show Knw W.all (updF W.kv o (maxV (W.kv o) (W.kv j)) r)
    by_cases e : r = o
    · subst e; rw [updF_same]; exact hkn
    · rw [updF_ne _ _ e]; exact h.knw r hr
  · show updF W.kv o (maxV (W.kv o) (W.kv j)) r r = (cnt W.all r : Nat)
    by_cases e : r = o
    · subst e
      rw [updF_same]
      have h1 := h.own r hr
      have h2 := ((h.knw j hj).le r).2
      have h3 := maxV_ge (W.kv r) (W.kv j) r
      rcases h3.2.2 with e | e <;> omega
    · rw [updF_ne _ _ e]; exact h.own r hr
def W12.say (W : W12) (o : Nat) (m : Msg) : W12 := ⟨updF W.kv o (updF (W.kv o) o (W.kv o o + 1)), W.all ++ [m]⟩
theorem WOK.cnt_zero {n : Nat} {all : List Msg} (h : WOK n all) {i : Nat} (hi : n ≤ i) : cnt all i = 0 := by
  unfold cnt
  rcases Nat.eq_zero_or_pos (strm all i).length with e | e
  · exact e
  · obtain ⟨x, hx⟩ : ∃ x, (strm all i)[0]? = some x := ⟨_, List.getElem?_eq_getElem e⟩
    obtain ⟨h1, h2⟩ := strm_org hx
    obtain ⟨j, hj⟩ := List.getElem?_of_mem h1
    have h3 := (h j x hj).org
    unfold orgI at h2
    omega
theorem Msg.signed_E0 (m : Msg) : Msg.E0 m.signed m := by
  unfold Msg.signed
  split
  · exact ⟨rfl, rfl, rfl, Bod.E.refl _⟩
  · exact ⟨rfl, rfl, rfl, Bod.E.refl _⟩
theorem Msg.signed_may (m : Msg) : m.signed.may = m.may := Msg.may_congr m.signed_E0
theorem Msg.signed_isright {m : Msg} (hm : m.may = true) : m.signed.right = true := by
  have h2 : ∀ u, ({ m with tag := u } : Msg).right = (m.may && eq32 u (Sha.numbered m.origin m.number m.tagged)) := fun _ => rfl
  unfold Msg.signed
  rw [if_pos hm, h2, hm, eq32_refl]
  rfl
theorem Msg.signed_parts (m : Msg) : m.signed.origin = m.origin ∧ m.signed.number = m.number ∧ m.signed.deps = m.deps ∧ m.signed.body = m.body := by
  unfold Msg.signed
  split
  · exact ⟨rfl, rfl, rfl, rfl⟩
  · exact ⟨rfl, rfl, rfl, rfl⟩
theorem WInv.say {n : Nat} (hn : n ≤ 11) {W : W12} (h : WInv n W) {o : Nat} (ho : o < n) {m : Msg} (h1 : m.origin = ((o + 1 : Nat) : Int)) (h2 : m.number = W.kv o o + 1) (h3 : ∀ i, i < 11 → m.deps i = W.kv o i)
    (h4 : m.body.q.all (fun p => decide (p.1 ≤ (n : Int))) = true) (hm : m.may = true) : MOK n W.all m.signed ∧ WInv n (W.say o m.signed) := by
  obtain ⟨e1, e2, e3, e4⟩ := m.signed_parts
  have hk := h.knw o ho
  have hown := h.own o ho
  have horg : orgI m.signed = o := by unfold orgI; rw [e1, h1]; omega
  have hmok : MOK n W.all m.signed := by
    refine ⟨?_, ?_, Msg.signed_isright hm, ?_, fun i hi => ?_, fun x hx hxo i hi => ?_⟩
    · rw [e1, h1]; omega
    · unfold fitsB
      rw [Msg.signed_may, hm, e1, e4, h4, e3]
      have a1 : m.origin ≤ (n : Int) := by rw [h1]; omega
      rw [decide_eq_true a1, Bool.true_and, Bool.true_and, Bool.true_and, List.all_eq_true]
      intro i hi
      have hi := List.mem_range.1 hi
      rw [Bool.or_eq_true, decide_eq_true_eq, decide_eq_true_eq]
      by_cases hlt : i < n
      · exact .inl hlt
      · refine .inr ?_
        rw [h3 i hi]
        have := (hk.le i).2
        rw [h.ok.cnt_zero (by omega)] at this
        exact this
    · rw [e2, h2, horg, hown]; omega
    · rw [e3, h3 i hi]; exact hk.le i
    · rw [e3, h3 i hi]
      refine hk.closed x hx ?_ i hi
      rw [hxo, horg, hown]
      obtain ⟨p, hp⟩ := strm_mem hx
      have hx1 := strm_numA h.ok hp
      have hx2 : p < (strm W.all (orgI x)).length := by
        rcases Nat.lt_or_ge p (strm W.all (orgI x)).length with h | h
        · exact h
        · rw [List.getElem?_eq_none h] at hp; cases hp
      rw [hxo, horg] at hx2
      unfold cnt
      omega
  have hcs : ∀ i, cnt (W.all ++ [m.signed]) i = cnt W.all i + (if i = o then 1 else 0) := fun i => by rw [cnt_snoc, horg]
  refine ⟨hmok, h.ok.snoc hmok, fun r hr => ?_, fun r hr => ?_⟩
  · show Knw (W.all ++ [m.signed]) (updF W.kv o (updF (W.kv o) o (W.kv o o + 1)) r)
    by_cases e : r = o
    · subst e
      rw [updF_same]
      refine ⟨fun i => ?_, fun x hx hxn i hi => ?_⟩
      · rw [hcs]
        have := hk.le i
        by_cases e : i = r
        · subst e; rw [updF_same, if_pos rfl]; omega
        · rw [updF_ne _ _ e, if_neg e]; omega
      · have hmono : W.kv r i ≤ updF (W.kv r) r (W.kv r r + 1) i := by
          by_cases e : i = r
          · subst e; rw [updF_same]; omega
          · rw [updF_ne _ _ e]; exact Int.le_refl _
        rcases List.mem_append.1 hx with hx | hx
        · by_cases hle : x.number ≤ W.kv r (orgI x)
          · have := hk.closed x hx hle i hi
            omega
          · have ho2 : orgI x = r := by
              by_cases e : orgI x = r
              · exact e
              · rw [updF_ne _ _ e] at hxn; exact absurd hxn hle
            obtain ⟨p, hp⟩ := strm_mem hx
            have hx1 := strm_numA h.ok hp
            have hx2 : p < (strm W.all (orgI x)).length := by
              rcases Nat.lt_or_ge p (strm W.all (orgI x)).length with h | h
              · exact h
              · rw [List.getElem?_eq_none h] at hp; cases hp
            rw [ho2] at hx2 hle
            unfold cnt at hown
            omega
        · rw [List.mem_singleton] at hx
          subst hx
          rw [e3, h3 i hi]
          exact hmono
    · rw [updF_ne _ _ e]
      have hkr := h.knw r hr
      refine ⟨fun i => ?_, fun x hx hxn i hi => ?_⟩
      · rw [hcs]
        have := hkr.le i
        split <;> omega
      · rcases List.mem_append.1 hx with hx | hx
        · exact hkr.closed x hx hxn i hi
        · rw [List.mem_singleton] at hx
          subst hx
          rw [horg, e2, h2, hown] at hxn
          have := (hkr.le o).2
          omega
  · show updF W.kv o (updF (W.kv o) o (W.kv o o + 1)) r r = (cnt (W.all ++ [m.signed]) r : Nat)
    rw [hcs]
    by_cases e : r = o
    · subst e
      rw [updF_same, updF_same, if_pos rfl, hown]; omega
    · rw [updF_ne _ _ e, if_neg e, Nat.add_zero]; exact h.own r hr
end Go.Proofs.YtoigpgdmignaoaaGreatDoor

/- Layer 12, plain: the document's lore answers as the program's. No program in sight. -/
namespace Go.Proofs.YtoigpgdmignaoaaGreatDoor
open Go
def LOK (n : Nat) (l : List Msg) : Prop := ∀ j m, l[j]? = some m → chk n (strm (l.take j)) m = 0
theorem chk_zero {n : Nat} {S : Strm} {m : Msg} (h : chk n S m = 0) : fitsB n m = true ∧ m.right = true ∧ m.number = (((S (orgI m)).length + 1 : Nat) : Int) ∧ (0 < (S (orgI m)).length → ∀ i, i < 11 → lastD (S (orgI m)) i ≤ m.deps i) ∧ (∀ i, i < 11 → m.deps i ≤ knownS S i) := by
  unfold chk at h
  by_cases h1 : fitsB n m = false
  · rw [if_pos h1] at h; exact absurd h (by decide)
  · rw [if_neg h1] at h
    by_cases h2 : m.right = false
    · rw [if_pos h2] at h; exact absurd h (by decide)
    · rw [if_neg h2] at h
      by_cases h3 : m.number ≤ ((S (orgI m)).length : Nat)
      · rw [if_pos h3] at h; exact absurd h (by decide)
      · rw [if_neg h3] at h
        by_cases h4 : m.number = (((S (orgI m)).length + 1 : Nat) : Int) ∧ 0 < (S (orgI m)).length ∧ aboveB (lastD (S (orgI m))) m.deps = true
        · rw [if_pos h4] at h; exact absurd h (by decide)
        · rw [if_neg h4] at h
          by_cases h5 : (((S (orgI m)).length + 1 : Nat) : Int) < m.number ∨ aboveB m.deps (knownS S) = true
          · rw [if_pos h5] at h; exact absurd h (by decide)
          · have e : m.number = (((S (orgI m)).length + 1 : Nat) : Int) := by omega
            refine ⟨by simpa using h1, by simpa using h2, e, fun hp => ?_, ?_⟩
            · refine aboveB_false.1 ?_
              cases ha : aboveB (lastD (S (orgI m))) m.deps with
              | false => rfl
              | true => exact absurd ⟨e, hp, ha⟩ h4
            · refine aboveB_false.1 ?_
              cases ha : aboveB m.deps (knownS S) with
              | false => rfl
              | true => exact absurd (.inr ha) h5
theorem fits_org {n : Nat} {m : Msg} (h : fitsB n m = true) : 1 ≤ m.origin ∧ m.origin ≤ (n : Int) ∧ m.may = true := by
  unfold fitsB at h
  simp only [Bool.and_eq_true, decide_eq_true_eq] at h
  exact ⟨(Msg.may_outer h.1).1, h.2.1, h.1⟩
theorem LOK.num {n : Nat} {l : List Msg} (h : LOK n l) : ∀ k i p x, (strm (l.take k) i)[p]? = some x → x.number = ((p + 1 : Nat) : Int)
  | 0, i, p, x, hx => by simp [strm] at hx
  | k + 1, i, p, x, hx => by
    cases hm : l[k]? with
    | none =>
      have e : l.take (k + 1) = l.take k := by rw [List.take_add_one, hm]; simp
      rw [e] at hx
      exact h.num k i p x hx
    | some m =>
      have hok := (chk_zero (h k m hm)).2.2.1
      rw [take_snoc hm, strm_snoc] at hx
      unfold addS updF at hx
      by_cases hi : i = orgI m
      · rw [if_pos hi] at hx
        rcases Nat.lt_or_ge p (strm (l.take k) (orgI m)).length with hlt | hge
        · rw [List.getElem?_append_left hlt] at hx
          exact h.num k _ p x hx
        · rw [List.getElem?_append_right hge] at hx
          have e : p = (strm (l.take k) (orgI m)).length := by
            rcases Nat.eq_or_lt_of_le hge with e | e
            · exact e.symm
            · rw [List.getElem?_eq_none (by simp; omega)] at hx; cases hx
          subst e
          rw [Nat.sub_self] at hx
          simp at hx
          subst hx
          exact hok
      · rw [if_neg hi] at hx
        exact h.num k i p x hx
theorem LOK.numA {n : Nat} {l : List Msg} (h : LOK n l) {i p : Nat} {x : Msg} (hx : (strm l i)[p]? = some x) : x.number = ((p + 1 : Nat) : Int) := by
  refine h.num l.length i p x ?_
  rw [take_all]; exact hx
theorem LOK.snoc {n : Nat} {l : List Msg} {m : Msg} (h : LOK n l) (hm : chk n (strm l) m = 0) : LOK n (l ++ [m]) := fun j x hj => by
  rcases Nat.lt_or_ge j l.length with hlt | hge
  · rw [List.getElem?_append_left hlt] at hj
    rw [List.take_append_of_le_length (by omega)]
    exact h j x hj
  · rw [List.getElem?_append_right hge] at hj
    have e : j = l.length := by
      rcases Nat.eq_or_lt_of_le hge with e | e
      · exact e.symm
      · rw [List.getElem?_eq_none (by simp; omega)] at hj; cases hj
    subst e
    rw [Nat.sub_self] at hj
    simp at hj
    subst hj
    rw [List.take_left]
    exact hm
theorem LOK.nil (n : Nat) : LOK n [] := fun j m h => by simp at h
theorem LOK.org {n : Nat} {l : List Msg} (h : LOK n l) {x : Msg} (hx : x ∈ l) : 1 ≤ x.origin ∧ x.origin ≤ (n : Int) := by
  obtain ⟨j, hj⟩ := List.getElem?_of_mem hx
  have := fits_org (chk_zero (h j x hj)).1
  exact ⟨this.1, this.2.1⟩
def findM (l : List Msg) (o z : Int) : Option Msg := l.find? fun x => decide (x.origin = o) && decide (x.number = z)
theorem LOK.find {n : Nat} {l : List Msg} (h : LOK n l) {o : Nat} (ho : o < n) (p : Nat) : findM l ((o + 1 : Nat) : Int) ((p + 1 : Nat) : Int) = (strm l o)[p]? := by
  unfold findM
  cases hp : (strm l o)[p]? with
  | none =>
    rw [List.find?_eq_none]
    intro x hx hb
    simp only [Bool.and_eq_true, decide_eq_true_eq] at hb
    obtain ⟨q, hq⟩ := strm_mem hx
    have h1 := h.numA hq
    have h2 : orgI x = o := by unfold orgI; omega
    rw [h2] at hq
    have h3 : q = p := by omega
    subst h3
    rw [hp] at hq; cases hq
  | some x =>
    obtain ⟨hx, hxo⟩ := strm_org hp
    have hxn := h.numA hp
    cases hf : l.find? fun x => decide (x.origin = ((o + 1 : Nat) : Int)) && decide (x.number = ((p + 1 : Nat) : Int)) with
    | none =>
      rw [List.find?_eq_none] at hf
      have := hf x hx
      have h1 := (h.org hx).1
      simp only [Bool.and_eq_true, decide_eq_true_eq, not_and] at this
      exact absurd hxn (this (by unfold orgI at hxo; omega))
    | some y =>
      have hy := List.mem_of_find?_eq_some hf
      have hb := List.find?_some hf
      simp only [Bool.and_eq_true, decide_eq_true_eq] at hb
      obtain ⟨q, hq⟩ := strm_mem hy
      have h1 := h.numA hq
      have h2 : orgI y = o := by unfold orgI; omega
      rw [h2] at hq
      have h3 : q = p := by omega
      subst h3
      rw [hp] at hq
      exact hq.symm
theorem LOK.find_none {n : Nat} {l : List Msg} (h : LOK n l) {o z : Int} (ho : o < 1 ∨ (n : Int) < o ∨ z < 1) : findM l o z = none := by
  unfold findM
  rw [List.find?_eq_none]
  intro x hx hb
  simp only [Bool.and_eq_true, decide_eq_true_eq] at hb
  have h1 := h.org hx
  obtain ⟨q, hq⟩ := strm_mem hx
  have h2 := h.numA hq
  omega
theorem lastD_get {l : List Msg} {x : Msg} (h : l[l.length - 1]? = some x) : lastD l = x.deps := by
  unfold lastD
  rw [List.getLast?_eq_getElem?, h]
end Go.Proofs.YtoigpgdmignaoaaGreatDoor

/- Layer 8: a request's tag, plain; fields of many cells. No condition. -/
namespace Go.Proofs.YtoigpgdmignaoaaGreatDoor
open Go
def clientW : List UInt8 := [114, 97, 116, 99, 104, 101, 116, 32, 99, 108, 105, 101, 110, 116]
def Req.sig (r : Req) : Nat → UInt8 := Sha.hmac (Sha.word32 clientW r.client) r.bytes
def Req.signed (r : Req) : Req := if r.asked then { r with tag := r.sig } else r
theorem Req.bytes_max {r : Req} (h : r.asked) : r.bytes.length ≤ 1000 := by
  obtain ⟨_, _, _, _, ⟨h1, h2⟩, h3, h4⟩ := h
  rw [Req.bytes_len]
  omega
theorem splice_rtag (r : Req) (t : Nat → UInt8) : splice r.vals (0 + 8) (b32 t) = ({ r with tag := t } : Req).vals := rfl
section
variable {P : Program} {base : World} {n : Nat} {L : Env} {f : Frag} {A V : List HP} {q : Post} {l rest : List Oper} {d : Nat} {ty : TypeId} {pos : String} {af : Array Edge} {gd : Option (Nat × Bool)}
end
end Go.Proofs.YtoigpgdmignaoaaGreatDoor

/- Layer 12, plain: what an act of the document's worlds says; a world behind some acts. No program in sight. -/
namespace Go.Proofs.YtoigpgdmignaoaaGreatDoor
open Go
structure A12 where
  who : UInt8
  other : UInt8
  meet : Bool
  kind : UInt8
  view : UInt8
  k : UInt8
  client : UInt8
  q : List UInt8
  qp : Option Addr
  qc : Nat
def A12.vals (x : A12) : List Value := [.int .u8 (x.who.toNat : Nat), .int .u8 (x.other.toNat : Nat), .bool x.meet, .int .u8 (x.kind.toNat : Nat), .int .u8 (x.view.toNat : Nat), .int .u8 (x.k.toNat : Nat), .int .u8 (x.client.toNat : Nat), .slice x.qp x.q.length x.qc]
def keyA : ByteArray := ⟨#[97]⟩
def A12.req (x : A12) : Req := { Req.zero with client := 1 + ((x.client.toNat % 3 : Nat) : Int), time := 1 + ((x.k.toNat : Nat) : Int), kind := 1, key := keyA }
def A12.qTo (x : A12) : Nat → List (Int × Int)
  | 0 => []
  | 1 => [(1, 1 + ((x.k.toNat % 6 : Nat) : Int))]
  | r + 2 => x.qTo (r + 1) ++ [(((r + 2 : Nat) : Int), 1 + (((x.q.getD (r + 1) 0).toNat % 8 : Nat) : Int))]
def A12.top (n : Nat) (x : A12) : Nat := if x.q.length ≤ 1 then 1 else if n ≤ x.q.length then n else x.q.length
def dig0 (c : UInt8) : Nat → UInt8
  | 0 => c
  | _ + 1 => 0
def A12.bodK (n : Nat) (x : A12) : Nat → Bod
  | 0 => { Bod.zero 1 with view := 1 + ((x.view.toNat % 6 : Nat) : Int), req := x.req.signed }
  | 1 => { Bod.zero 2 with view := 1 + ((x.view.toNat % 6 : Nat) : Int), k := 1 + ((x.k.toNat % 6 : Nat) : Int) }
  | 2 => { Bod.zero 3 with view := 1 + ((x.view.toNat % 6 : Nat) : Int) }
  | 3 => { Bod.zero 4 with view := 1 + ((x.view.toNat % 6 : Nat) : Int), q := x.qTo (x.top n) }
  | 4 => { Bod.zero 5 with view := 1 + ((x.view.toNat % 6 : Nat) : Int) }
  | _ => { Bod.zero 6 with k := 1 + ((x.k.toNat : Nat) : Int), dig := dig0 x.client }
def A12.bod (n : Nat) (x : A12) : Bod := x.bodK n (x.kind.toNat % 6)
theorem A12.qTo_len (x : A12) : ∀ r, (x.qTo r).length = r
  | 0 => rfl
  | 1 => rfl
  | r + 2 => by unfold A12.qTo; rw [List.length_append, x.qTo_len (r + 1)]; rfl
theorem A12.qTo_all (x : A12) : ∀ r p, p ∈ x.qTo r → p.1 ≤ (r : Int)
  | 0, p, h => by cases h
  | 1, p, h => by
    unfold A12.qTo at h
    rw [List.mem_singleton] at h
    subst h; exact Int.le_refl 1
  | r + 2, p, h => by
    unfold A12.qTo at h
    rcases List.mem_append.1 h with h | h
    · have := x.qTo_all (r + 1) p h
      omega
    · rw [List.mem_singleton] at h
      subst h; exact Int.le_refl _
theorem A12.top_le {n : Nat} (x : A12) (hn : 1 ≤ n) : 1 ≤ x.top n ∧ x.top n ≤ n := by
  unfold A12.top
  split
  · omega
  · split <;> omega
theorem signed_ok {r : Req} (h : r.Ok) : r.signed.Ok := by
  unfold Req.signed
  split
  · exact h
  · exact h
theorem reqz_ok : Req.zero.Ok := ⟨⟨by decide, by decide⟩, by decide, by decide⟩
theorem A12.req_ok (x : A12) : x.req.Ok := by
  have h := x.k.toNat_lt
  refine ⟨⟨?_, ?_⟩, by show (0 : Int) ≤ 0; decide, by show (0 : Int) ≤ _; decide⟩
  · show (0 : Int) ≤ 1 + ((x.k.toNat : Nat) : Int); omega
  · show 1 + ((x.k.toNat : Nat) : Int) ≤ _; omega
theorem A12.bod_ok (n : Nat) (x : A12) : (x.bod n).Ok := by
  have hk := x.k.toNat_lt
  have hv : 0 ≤ 1 + ((x.view.toNat % 6 : Nat) : Int) ∧ 1 + ((x.view.toNat % 6 : Nat) : Int) ≤ 18446744073709551615 := by omega
  have hk6 : 0 ≤ 1 + ((x.k.toNat % 6 : Nat) : Int) ∧ 1 + ((x.k.toNat % 6 : Nat) : Int) ≤ 18446744073709551615 := by omega
  have hk1 : 0 ≤ 1 + ((x.k.toNat : Nat) : Int) ∧ 1 + ((x.k.toNat : Nat) : Int) ≤ 18446744073709551615 := by omega
  have h0 : (0 : Int) ≤ 0 ∧ (0 : Int) ≤ 18446744073709551615 := by omega
  unfold A12.bod
  generalize x.kind.toNat % 6 = j
  match j with
  | 0 => exact ⟨hv, h0, signed_ok x.req_ok⟩
  | 1 => exact ⟨hv, hk6, reqz_ok⟩
  | 2 => exact ⟨hv, h0, reqz_ok⟩
  | 3 => exact ⟨hv, h0, reqz_ok⟩
  | 4 => exact ⟨hv, h0, reqz_ok⟩
  | j + 5 => exact ⟨h0, hk1, reqz_ok⟩
theorem A12.bod_q {n : Nat} (x : A12) (hn : 1 ≤ n) : (x.bod n).q.length ≤ n ∧ (x.bod n).q.all (fun p => decide (p.1 ≤ (n : Int))) = true := by
  unfold A12.bod
  generalize x.kind.toNat % 6 = j
  have h0 : ([] : List (Int × Int)).length ≤ n ∧ ([] : List (Int × Int)).all (fun p => decide (p.1 ≤ (n : Int))) = true := ⟨Nat.zero_le _, rfl⟩
  match j with
  | 0 => exact h0
  | 1 => exact h0
  | 2 => exact h0
  | 3 =>
    have := x.top_le hn
    show (x.qTo (x.top n)).length ≤ n ∧ (x.qTo (x.top n)).all _ = true
    rw [x.qTo_len, List.all_eq_true]
    refine ⟨this.2, fun p hp => ?_⟩
    have := x.qTo_all _ p hp
    rw [decide_eq_true_eq]
    omega
  | 4 => exact h0
  | j + 5 => exact h0
def W12.next (W : W12) (n o : Nat) (x : A12) : Msg := ⟨((o + 1 : Nat) : Int), W.kv o o + 1, W.kv o, x.bod n, noTag⟩
def W12.act (n : Nat) (W : W12) (x : A12) : W12 :=
  if x.meet = true then W.meet (x.who.toNat % n) (x.other.toNat % n) else
  if (W.next n (x.who.toNat % n) x).may = true then W.say (x.who.toNat % n) (W.next n (x.who.toNat % n) x).signed else W
theorem WInv.act {n : Nat} (h1 : 1 ≤ n) (h11 : n ≤ 11) {W : W12} (h : WInv n W) (x : A12) : WInv n (W.act n x) := by
  have ho : x.who.toNat % n < n := Nat.mod_lt _ h1
  have hj : x.other.toNat % n < n := Nat.mod_lt _ h1
  unfold W12.act
  split
  · exact h.meet ho hj
  · split
    · rename_i hm
      exact (h.say h11 ho (m := W.next n (x.who.toNat % n) x) rfl rfl (fun i _ => rfl) (x.bod_q h1).2 hm).2
    · exact h
def worldOf (n : Nat) (l : List A12) : W12 := l.foldl (W12.act n) W12.zero
theorem worldOf_snoc (n : Nat) (l : List A12) (x : A12) : worldOf n (l ++ [x]) = (worldOf n l).act n x := by
  unfold worldOf; rw [List.foldl_append]; rfl
theorem worldOf_inv {n : Nat} (h1 : 1 ≤ n) (h11 : n ≤ 11) (l : List A12) : ∀ k, WInv n (worldOf n (l.take k))
  | 0 => WInv.zero n
  | k + 1 => by
    cases h : l[k]? with
    | none =>
      have e : l.take (k + 1) = l.take k := by rw [List.take_add_one, h]; simp
      rw [e]; exact worldOf_inv h1 h11 l k
    | some x =>
      rw [take_snoc h, worldOf_snoc]
      exact (worldOf_inv h1 h11 l k).act h1 h11 x
theorem W12.act_len (n : Nat) (W : W12) (x : A12) : (W.act n x).all.length ≤ W.all.length + 1 := by
  unfold W12.act
  split
  · exact Nat.le_succ _
  · split
    · show (W.all ++ [_]).length ≤ _
      rw [List.length_append]; exact Nat.le_refl _
    · exact Nat.le_succ _
theorem worldOf_len (n : Nat) (l : List A12) : ∀ k, (worldOf n (l.take k)).all.length ≤ k
  | 0 => Nat.le_refl 0
  | k + 1 => by
    cases h : l[k]? with
    | none =>
      have e : l.take (k + 1) = l.take k := by rw [List.take_add_one, h]; simp
      rw [e]
      have := worldOf_len n l k
      omega
    | some x =>
      rw [take_snoc h, worldOf_snoc]
      have := W12.act_len n (worldOf n (l.take k)) x
      have := worldOf_len n l k
      omega
theorem cnt_len (l : List Msg) (i : Nat) : cnt l i ≤ l.length := by
  unfold cnt strm
  exact List.length_filter_le _ _
theorem WInv.kv_le {n : Nat} {W : W12} (h : WInv n W) {r : Nat} (hr : r < n) (i : Nat) : 0 ≤ W.kv r i ∧ W.kv r i ≤ (W.all.length : Nat) := by
  have h1 := (h.knw r hr).le i
  have h2 := cnt_len W.all i
  omega
end Go.Proofs.YtoigpgdmignaoaaGreatDoor

/- Layer 12: what a lore owns. -/
namespace Go.Proofs.YtoigpgdmignaoaaGreatDoor
open Go
def strmV (l : List MV) : Nat → List MV := fun i => l.filter fun x => decide (orgI x.m = i)
theorem strmV_map (l : List MV) (i : Nat) : (strmV l i).map MV.m = strm (l.map MV.m) i := by
  unfold strmV strm
  rw [List.filter_map]
  rfl
theorem strmV_len (l : List MV) (i : Nat) : (strmV l i).length = cnt (l.map MV.m) i := by
  unfold cnt; rw [← strmV_map, List.length_map]
theorem strmV_snoc (l : List MV) (x : MV) (i : Nat) : strmV (l ++ [x]) i = if i = orgI x.m then strmV l i ++ [x] else strmV l i := by
  unfold strmV
  rw [List.filter_append]
  by_cases h : i = orgI x.m
  · rw [if_pos h]; simp [h]
  · rw [if_neg h]
    have : decide (orgI x.m = i) = false := decide_eq_false fun e => h e.symm
    simp [this]
def placesFrom : List Msg → List Msg → List (Nat × Nat)
  | _, [] => []
  | pre, m :: r => (orgI m, cnt pre (orgI m)) :: placesFrom (pre ++ [m]) r
def placesOf (l : List Msg) : List (Nat × Nat) := placesFrom [] l
theorem placesFrom_app : ∀ (a pre b : List Msg), placesFrom pre (a ++ b) = placesFrom pre a ++ placesFrom (pre ++ a) b
  | [], pre, b => by simp [placesFrom]
  | m :: a, pre, b => by
    rw [List.cons_append]
    show _ :: placesFrom (pre ++ [m]) (a ++ b) = (_ :: placesFrom (pre ++ [m]) a) ++ _
    rw [placesFrom_app a (pre ++ [m]) b, List.cons_append]
    simp
theorem placesOf_snoc (l : List Msg) (m : Msg) : placesOf (l ++ [m]) = placesOf l ++ [(orgI m, cnt l (orgI m))] := by
  unfold placesOf
  rw [placesFrom_app]
  rfl
theorem placesFrom_len : ∀ (l pre : List Msg), (placesFrom pre l).length = l.length
  | [], _ => rfl
  | m :: l, pre => by
    show (placesFrom (pre ++ [m]) l).length + 1 = _
    rw [placesFrom_len l]; rfl
theorem placesFrom_get : ∀ (l pre : List Msg) (j : Nat) (m : Msg), l[j]? = some m → (placesFrom pre l)[j]? = some (orgI m, cnt (pre ++ l.take j) (orgI m))
  | [], pre, j, m, h => by simp at h
  | a :: l, pre, 0, m, h => by
    simp at h; subst h
    show some _ = _
    simp
  | a :: l, pre, j + 1, m, h => by
    show (placesFrom (pre ++ [a]) l)[j]? = _
    rw [placesFrom_get l (pre ++ [a]) j m (by simpa using h)]
    simp
theorem placesOf_get {l : List Msg} {j : Nat} {m : Msg} (h : l[j]? = some m) : (placesOf l)[j]? = some (orgI m, cnt (l.take j) (orgI m)) := by
  have := placesFrom_get l [] j m h
  rwa [List.nil_append] at this
def placeV (p : Nat × Nat) : List Value := [.int .i64 (p.1 : Int), .int .i64 (p.2 : Int)]
structure LP where
  P : Nat → Option Addr
  C : Nat → Nat
  po : Option Addr
  co : Nat
def loreCells (n : Nat) (l : List MV) (i : LP) : List Value := [.int .i64 (n : Int)] ++ c11 (fun k => .slice (i.P k) (strmV l k).length (i.C k)) ++ [.slice i.po l.length i.co]
def strH (l : List MV) (i : LP) (k : Nat) : HP := slc (i.P k) (strmV l k).length (i.C k) 47 121 ((strmV l k).flatMap MV.vals)
def ordH (l : List MV) (i : LP) : HP := slc i.po l.length i.co 123 2 ((placesOf (l.map MV.m)).flatMap placeV)
def loreφ (f : Frag) (n : Nat) (l : List MV) : Prop := (∀ x ∈ l, x.Good f) ∧ l.length ≤ 100000 ∧ LOK n (l.map MV.m) ∧ n ≤ 11
def loreH (f : Frag) (lb : Nat) (n : Nat) (l : List MV) : HP := pack (fun _ : LP => loreφ f n l) (fun i => [row lb 120 (loreCells n l i), fam (strH l i) 11, ordH l i])
theorem loreφ.mono {f g : Frag} (h : Le f g) {n : Nat} {l : List MV} (hl : loreφ f n l) : loreφ g n l := ⟨fun x hx => (hl.1 x hx).mono h, hl.2⟩
theorem loreH_mono {f g : Frag} (h : Le f g) {lb n : Nat} {l : List MV} : ∀ x, loreH f lb n l x → loreH g lb n l x := fun x ⟨i, hi, hx⟩ => ⟨i, hi.mono h, hx⟩
theorem H.loreOpen {P : Program} {base : World} {n0 : Nat} {L : Env} {f fl : Frag} {F : List HP} {K : Kont} {lb n : Nat} {l : List MV}
    (k : ∀ i : LP, loreφ fl n l → H P base n0 L f (row lb 120 (loreCells n l i) :: fam (strH l i) 11 :: ordH l i :: F) K) : H P base n0 L f (loreH fl lb n l :: F) K :=
  H.unpack fun i hi => k i hi
theorem lore_fold {fl : Frag} {F : List HP} {lb n : Nat} {l : List MV} (i : LP) (h : loreφ fl n l) : ∀ x, stars (row lb 120 (loreCells n l i) :: fam (strH l i) 11 :: ordH l i :: F) x → stars (loreH fl lb n l :: F) x := fun x hx =>
  pack_fold (ι := LP) (φ := fun _ : LP => loreφ fl n l) (B := fun i => [row lb 120 (loreCells n l i), fam (strH l i) 11, ordH l i]) i h x hx
theorem loreCells_str (n : Nat) (l : List MV) (i : LP) {k : Nat} (h : k < 11) : (loreCells n l i)[1 + k]? = some (.slice (i.P k) (strmV l k).length (i.C k)) := by
  unfold loreCells
  rw [List.append_assoc, List.getElem?_append_right (by show 1 ≤ 1 + k; omega), show 1 + k - [Value.int .i64 (n : Int)].length = k by show 1 + k - 1 = k; omega, List.getElem?_append_left (by show k < 11; exact h), c11_get _ h]
theorem rngH_nil {g : Nat → HP} : ∀ k, (∀ j, j < k → g j nil0) → stars (rngH g k) nil0
  | 0, _ => rfl
  | k + 1, h => ⟨nil0, nil0, Dj.nil _, (un_nil _).symm, h k (by omega), rngH_nil k fun j hj => h j (by omega)⟩
end Go.Proofs.YtoigpgdmignaoaaGreatDoor

/- Layer 12: a new lore; which vectors are above others; how many are known. -/
namespace Go.Proofs.YtoigpgdmignaoaaGreatDoor
open Go
theorem H.addNil {P : Program} {base : World} {n : Nat} {L : Env} {f : Frag} {A : List HP} {K : Kont} (p : HP) (hp : p nil0) (k : H P base n L f (p :: A) K) : H P base n L f A K :=
  H.imp (A' := p :: A) (fun h hh => ⟨nil0, h, (Dj.nil h).symm, (nil_un h).symm, hp, hh⟩) k
def fewZ (z : Int) : Prop := 3 ≤ z ∧ z ≤ 11 ∧ z.tmod 2 = 1
instance (z : Int) : Decidable (fewZ z) := by unfold fewZ; infer_instance
def lp0 : LP := ⟨fun _ => none, fun _ => 0, none, 0⟩
section
variable (f : Frag) (F : List HP)
theorem lfew_fn (z : Int) : Fn Tryz.prog 55 [.int .i64 z] f F (Ret (.bool (decide (fewZ z))) f F) := by
  by_cases h1 : 3 ≤ z
  · by_cases h2 : z ≤ 11
    · skip
      refine Fn.enter Tryz.func55 rfl Tryz.ntmps55 rfl (L := [(0, _)]) ⟨rfl, trivial⟩ fun base => ?_
      repeat (first | (refine H.rem (z := z.tmod 2) rfl rfl rfl (by decide) rfl rfl ?_) | ((first | apply H.move | apply H.assign); (iterate 3 exact rfl)) | (first | apply H.seq | apply H.region | apply H.nil | apply H.then_normal) | ((apply H.cmp); (iterate 5 exact rfl)) | (apply H.pickT; (iterate 4 exact rfl)) | (apply H.ret) | (apply H.gyes; (iterate 3 exact rfl); (assumption)))
      refine H.ret1 rfl rfl (fun _ h => h) ⟨?_, rfl, rfl⟩
      simp [fewZ, *]
    · skip
      refine Fn.enter Tryz.func55 rfl Tryz.ntmps55 rfl (L := [(0, _)]) ⟨rfl, trivial⟩ fun base => ?_
      repeat (first | ((first | apply H.move | apply H.assign); (iterate 3 exact rfl)) | (first | apply H.seq | apply H.region | apply H.nil | apply H.then_normal) | ((apply H.cmp); (iterate 5 exact rfl)) | (apply H.pass; (iterate 2 exact rfl)) | (apply H.pickT; (iterate 4 exact rfl)) | ((apply H.pickF); (iterate 4 exact rfl)) | (apply H.ret) | (apply H.gyes; (iterate 3 exact rfl); (assumption)) | (apply H.gno; (iterate 3 exact rfl); (assumption)))
      refine H.ret1 rfl rfl (fun _ h => h) ⟨?_, rfl, rfl⟩
      simp [fewZ, *]
  · skip
    refine Fn.enter Tryz.func55 rfl Tryz.ntmps55 rfl (L := [(0, _)]) ⟨rfl, trivial⟩ fun base => ?_
    repeat (first | ((first | apply H.move | apply H.assign); (iterate 3 exact rfl)) | (first | apply H.seq | apply H.region | apply H.nil | apply H.then_normal) | ((apply H.cmp); (iterate 5 exact rfl)) | (apply H.pass; (iterate 2 exact rfl)) | ((apply H.pickF); (iterate 4 exact rfl)) | (apply H.ret) | (apply H.gno; (iterate 3 exact rfl); (assumption)))
    refine H.ret1 rfl rfl (fun _ h => h) ⟨?_, rfl, rfl⟩
    simp [fewZ, *]
theorem lnew_no {z : Int} (h : ¬ fewZ z) : Fn Tryz.prog 18 [.int .i64 z] f F (Ret (.tuple #[.pointer none, .int .i64 1]) f F) := by
  have hf := fun G => lfew_fn f G z
  rw [decide_eq_false h] at hf
  refine Fn.enter Tryz.func18 rfl Tryz.ntmps18 rfl (L := [(0, _)]) ⟨rfl, trivial⟩ fun base => ?_
  repeat (first | ((first | apply H.move | apply H.assign); (iterate 3 exact rfl)) | (first | apply H.seq | apply H.region | apply H.nil | apply H.then_normal))
  refine H.callR rfl rfl rfl (hf _) ?_
  refine H.not (b := false) (c := true) rfl rfl rfl rfl ?_
  repeat (first | ((apply H.assign); (iterate 3 exact rfl)) | (first | apply H.seq | apply H.region | apply H.nil | apply H.then_normal) | (apply H.cond_true; exact rfl) | (first | apply H.ret | apply H.then_ret))
  exact H.ret2 rfl rfl rfl (fun _ h => h) ⟨rfl, rfl, rfl⟩
theorem lnew_fn {n : Nat} (h : fewZ (n : Int)) : Fn Tryz.prog 18 [.int .i64 (n : Int)] f F (RetE (fun lb : Nat => .tuple #[.pointer (some ⟨lb, 0, none⟩), .int .i64 0]) f (fun lb => loreH f lb n [] :: F)) := by
  have hf := fun G => lfew_fn f G (n : Int)
  rw [decide_eq_true h] at hf
  have hn : n ≤ 11 := by have := h.2.1; omega
  refine Fn.enter Tryz.func18 rfl Tryz.ntmps18 rfl (L := [(0, _)]) ⟨rfl, trivial⟩ fun base => ?_
  repeat (first | ((first | apply H.move | apply H.assign); (iterate 3 exact rfl)) | (first | apply H.seq | apply H.region | apply H.nil | apply H.then_normal))
  refine H.callR rfl rfl rfl (hf _) ?_
  refine H.not (b := true) (c := false) rfl rfl rfl rfl ?_
  repeat (first | (refine H.build (t := 120) (out := loreCells n [] lp0) rfl rfl rfl (by kernel_rfl) rfl ?_) | ((apply H.move); (iterate 3 exact rfl)) | (first | apply H.seq | apply H.region | apply H.nil | apply H.then_normal) | (apply H.cond_false; exact rfl) | (apply H.skip))
  refine H.box (ls := loreCells n [] lp0) rfl rfl rfl rfl fun lb => ?_
  repeat (first | ((apply H.assign); (iterate 3 exact rfl)) | (first | apply H.nil | apply H.then_normal) | (apply H.ret))
  refine H.addNil (ordH [] lp0) (slc_nil none _ 2) ?_
  refine H.addNil (fam (strH [] lp0) 11) (rngH_nil 11 fun j _ => slc_nil none _ 121) ?_
  refine H.front (.there _ (.there _ (.here _ _))) ?_
  refine H.imp (lore_fold lp0 (fl := f) ⟨fun x hx => (by cases hx), Nat.zero_le _, LOK.nil n, hn⟩) ?_
  exact H.ret2 rfl rfl rfl (fun _ h => h) ⟨lb, rfl, rfl, rfl⟩
set_option maxHeartbeats 800000 in
theorem above_fn (a b : Nat → Int) : Fn Tryz.prog 59 [.agg (v11 a).toArray, .agg (v11 b).toArray] f F (Ret (.bool (aboveB a b)) f F) := by
  refine Fn.enter Tryz.func59 rfl Tryz.ntmps59 rfl (L := [(0, _), (1, _)]) ⟨rfl, rfl, trivial⟩ fun base => ?_
  repeat ((first | apply H.seq | apply H.region))
  refine H.box (ls := v11 a) rfl rfl rfl rfl fun ab => ?_
  refine H.box (ls := v11 b) rfl rfl rfl rfl fun bb => ?_
  repeat (first | ((apply H.assign); (iterate 3 exact rfl)) | (first | apply H.seq | apply H.region | apply H.nil | apply H.then_normal))
  refine H.loadN (ls := v11 a) rfl rfl rfl (Rd.ofRow (.there _ (.here _ _ _))) rfl rfl ?_
  repeat (first | ((apply H.move); (iterate 3 exact rfl)) | (first | apply H.nil | apply H.then_normal) | (apply H.block))
  refine H.loop (ι := Nat) (fun i => [(8, .int .i64 (i : Int)), (7, .agg (v11 a).toArray), (3, .pointer (some ⟨bb, 0, none⟩))]) (fun _ => f) (fun _ => row bb 37 (v11 b) :: row ab 37 (v11 a) :: F) (fun i => i ≤ 11 ∧ ∀ j, j < i → a j ≤ b j) (fun i => 11 - i) 0 ⟨Nat.zero_le _, fun j hj => by omega⟩ ⟨rfl, rfl, rfl, trivial⟩ rfl rfl fun i hi => ?_
  obtain ⟨hi, hle⟩ : i ≤ 11 ∧ ∀ j, j < i → a j ≤ b j := hi
  by_cases hlt : i < 11
  · repeat (first | ((apply H.move); (iterate 3 exact rfl)) | (first | apply H.seq | apply H.region | apply H.nil | apply H.then_normal) | ((apply H.cmp); (iterate 5 exact rfl)) | (first | apply H.skip | apply H.block) | (apply H.cond_yes; exact rfl; (omega)))
    refine H.indexV (xs := v11 a) (i := i) rfl rfl rfl rfl hlt rfl (v11_get a hlt) rfl ?_
    repeat (first | ((first | apply H.move | apply H.assign); (iterate 3 exact rfl)) | (first | apply H.seq | apply H.region | apply H.nil | apply H.then_normal))
    refine H.index_array (i := i) rfl rfl rfl rfl hlt rfl ?_
    refine H.load1 rfl rfl rfl (.of (Rd.ofRow (.here _ _ _)) (by rw [Nat.mul_one]; exact v11_get b hlt)) rfl ?_
    by_cases hab : b i < a i
    · repeat (first | ((apply H.assign); (iterate 3 exact rfl)) | (first | apply H.seq | apply H.region | apply H.nil | apply H.then_normal) | ((apply H.cmp); (iterate 5 exact rfl)) | (first | apply H.ret | apply H.then_ret | apply H.in_ret | apply H.loop_ret) | (apply H.cond_yes; exact rfl; (assumption)))
      refine H.drop (.here _ _) ?_
      refine H.drop (.here _ _) ?_
      refine H.ret1 rfl rfl (fun _ h => h) ⟨?_, rfl, rfl⟩
      have : aboveB a b = true := by
        unfold aboveB
        rw [List.any_eq_true]
        exact ⟨i, List.mem_range.2 hlt, decide_eq_true hab⟩
      rw [this]
    · repeat (first | ((apply H.move); (iterate 3 exact rfl)) | (first | apply H.region | apply H.nil | apply H.then_normal) | ((apply H.cmp); (iterate 5 exact rfl)) | ((apply H.ar; (iterate 4 exact rfl)); (with_reducible apply wr_i64_n1; omega); exact rfl) | (first | apply H.skip | apply H.in_normal) | (apply H.cond_no; exact rfl; (assumption)))
      exact H.again (i + 1) ⟨by show i + 1 ≤ 11; omega, fun j hj => by
        by_cases e : j = i
        · rw [e]; omega
        · exact hle j (by omega)⟩ (by show 11 - (i + 1) < 11 - i; omega) ⟨rfl, rfl, rfl, trivial⟩ rfl rfl
  · repeat (first | ((apply H.assign); (iterate 3 exact rfl)) | (first | apply H.seq | apply H.region | apply H.nil | apply H.then_normal) | ((apply H.cmp); (iterate 5 exact rfl)) | (first | apply H.ret | apply H.then_exit | apply H.exit | apply H.in_hit | apply H.loop_exit) | (apply H.cond_no; exact rfl; (omega)))
    refine H.drop (.here _ _) ?_
    refine H.drop (.here _ _) ?_
    refine H.ret1 rfl rfl (fun _ h => h) ⟨?_, rfl, rfl⟩
    rw [aboveB_false.2 fun j hj => hle j (by omega)]
theorem llen_fn {fl : Frag} {lb n : Nat} {l : List MV} : Fn Tryz.prog 22 [.pointer (some ⟨lb, 0, none⟩)] f (loreH fl lb n l :: F) (Ret (.int .i64 (l.length : Nat)) f (loreH fl lb n l :: F)) := by
  refine Fn.unpack fun i hi => ?_
  refine Fn.enter Tryz.func22 rfl Tryz.ntmps22 rfl (L := [(0, _)]) ⟨rfl, trivial⟩ fun base => ?_
  repeat (first | ((first | apply H.move | apply H.assign | apply H.nilCheck | apply H.len_slice); (iterate 3 exact rfl)) | (apply H.fieldAddr; (iterate 3 exact rfl); exact inferInstance; exact rfl) | (apply H.load1; (iterate 3 exact rfl); apply Rd1.ofRow; (repeat (exact .here _ _ _)); (iterate 2 exact rfl)) | (first | apply H.seq | apply H.region | apply H.nil | apply H.then_normal) | ((apply H.ptrNil); (iterate 5 exact rfl)) | (apply H.cond_false; exact rfl) | (first | apply H.skip | apply H.ret))
  refine H.imp (lore_fold i hi) ?_
  exact H.ret1 rfl rfl (fun _ h => h) ⟨rfl, rfl, rfl⟩
end
end Go.Proofs.YtoigpgdmignaoaaGreatDoor

/- Layer 8: bytes that a law is given. -/
namespace Go.Proofs.YtoigpgdmignaoaaGreatDoor
open Go Go.ChangeShapes Go.WideShapes Go.RowKit Go.Deep
theorem reads_byte {W : World} {cs : List Value} (h : Reads Tryz.prog W 5 cs) : ∃ x : UInt8, True ∧ cs = [.int .u8 (x.toNat : Nat)] := by
  obtain ⟨z, rfl, hz⟩ := h.int Tryz.underlying5
  exact ⟨UInt8.ofNat z.toNat, trivial, by rw [u8_back hz]⟩
theorem listAt_bat {f : Frag} {p : Option Addr} {l : List UInt8} (h : ListAt f p 1 (fun x : UInt8 => [Value.int .u8 (x.toNat : Nat)]) l) : BAt f p l := by
  cases l with
  | nil => exact .inl rfl
  | cons x0 r =>
    obtain ⟨b, off, cs, T, fr, h1, h2, _⟩ := h 0 x0 rfl
    refine .inr ⟨b, off, cs, T, fr, h1, h2, fun i hi => ?_⟩
    have hx : (x0 :: r)[i]? = some (x0 :: r)[i] := List.getElem?_eq_getElem hi
    obtain ⟨b', off', cs', T', fr', g1, g2, g3⟩ := h i _ hx
    rw [h1] at g1
    cases g1
    rw [h2] at g2
    cases g2
    have h3 := g3 0 (show 0 < 1 by decide)
    rw [Nat.mul_one, Nat.add_zero] at h3
    rw [h3]
    unfold bytesV
    rw [List.getElem?_map, hx]
    rfl
theorem ArgOk.bytes {W : World} {v : Value} {t : TypeId} (ht : Tryz.prog.underlying t = some (.slice 5)) (h : ArgOk Tryz.prog W t v) : ∃ (p : Option Addr) (c : Nat) (l : List UInt8), v = .slice p l.length c ∧ l.length ≤ maxLen ∧ BAt (memOf W) p l := by
  obtain ⟨p, c, xs, rfl, h1, h2, _, hat⟩ := h.list (sz := 1) ht (by kernel_rfl) (by decide) fun cs => reads_byte
  exact ⟨p, c, xs, rfl, Nat.le_trans h1 h2, listAt_bat hat⟩
theorem okWide_arr {P : Program} {W : World} {r : Reach} {base n : Nat} {t e : TypeId} {v : Value} (ht : P.underlying t = some (.array n e)) (h : Value.okWide P W r base t v) : ∃ cs, v = .agg cs := by
  simp only [Value.okWide, ht] at h
  obtain ⟨cs, h1, _⟩ := h
  exact ⟨cs, h1⟩
end Go.Proofs.YtoigpgdmignaoaaGreatDoor

/- Layer 12: what a world of the document has in memory; the document's Few, Odd. -/
namespace Go.Proofs.YtoigpgdmignaoaaGreatDoor
open Go Go.ChangeShapes Go.WideShapes Go.RowKit Go.Deep
def kRow (n : Nat) (kv : Nat → Nat → Int) : List Value := (List.range (n * 11)).map fun j => .int .u64 (kv (j / 11) (j % 11))
theorem kRow_len (n : Nat) (kv : Nat → Nat → Int) : (kRow n kv).length = n * 11 := by unfold kRow; rw [List.length_map, List.length_range]
theorem kRow_at {n : Nat} {kv : Nat → Nat → Int} {j : Nat} (h : j < n * 11) : (kRow n kv)[j]? = some (.int .u64 (kv (j / 11) (j % 11))) := by
  unfold kRow
  rw [List.getElem?_map, List.getElem?_range h]; rfl
theorem kRow_get {n : Nat} {kv : Nat → Nat → Int} {o k : Nat} (ho : o < n) (hk : k < 11) : (kRow n kv)[o * 11 + k]? = some (.int .u64 (kv o k)) := by
  rw [kRow_at (by omega), show (o * 11 + k) / 11 = o by omega, show (o * 11 + k) % 11 = k by omega]
theorem kRow_set {n : Nat} {kv : Nat → Nat → Int} {o k : Nat} (z : Int) (ho : o < n) (hk : k < 11) : SetV (kRow n kv) (o * 11 + k) (.int .u64 z) (kRow n (updF kv o (updF (kv o) k z))) := by
  have e : kRow n (updF kv o (updF (kv o) k z)) = (kRow n kv).set (o * 11 + k) (.int .u64 z) := by
    apply List.ext_getElem?
    intro j
    rw [List.getElem?_set, kRow_len]
    by_cases hj : j < n * 11
    · rw [kRow_at hj, kRow_at hj]
      by_cases e : o * 11 + k = j
      · rw [if_pos e, if_pos (by omega), show j / 11 = o by omega, show j % 11 = k by omega, updF_same, updF_same]
      · rw [if_neg e]
        by_cases e1 : j / 11 = o
        · rw [e1, updF_same, updF_ne _ _ (by omega)]
        · rw [updF_ne _ _ e1]
    · rw [if_neg (by omega), List.getElem?_eq_none (by rw [kRow_len]; omega), List.getElem?_eq_none (by rw [kRow_len]; omega)]
  rw [e]
  exact SetV.mk _ (by rw [kRow_len]; omega)
theorem kRow_congr {n : Nat} {kv kv' : Nat → Nat → Int} (h : ∀ r, r < n → ∀ i, i < 11 → kv r i = kv' r i) : kRow n kv = kRow n kv' := by
  apply List.ext_getElem?
  intro j
  by_cases hj : j < n * 11
  · rw [kRow_at hj, kRow_at hj, h (j / 11) (by omega) (j % 11) (by omega)]
  · rw [List.getElem?_eq_none (by rw [kRow_len]; omega), List.getElem?_eq_none (by rw [kRow_len]; omega)]
theorem kRow_zero (n : Nat) : zeros (v11 fun _ => 0) n = kRow n fun _ _ => 0 := by
  have hl : (v11 fun _ => 0).length = 11 := rfl
  apply List.ext_getElem?
  intro j
  by_cases hj : j < n * 11
  · rw [kRow_at hj, zeros_get _ _ _ (by rw [hl]; exact hj), hl, v11_get _ (by omega)]
  · rw [List.getElem?_eq_none (by rw [zeros_length, hl]; omega), List.getElem?_eq_none (by rw [kRow_len]; omega)]
theorem Rd.part {f : Frag} {A : List HP} {b off : Nat} {big l : List Value} (h : Rd f A b 0 big) (hl : ∀ i, i < l.length → big[off + i]? = l[i]?) (hle : off + l.length ≤ big.length) : Rd f A b off l := fun base w s => by
  obtain ⟨cs, t, fr, h1, h2⟩ := h base w s
  exact ⟨cs, t, fr, h1, fun i hi => by rw [← hl i hi, ← h2 (off + i) (by omega), Nat.zero_add]⟩
theorem Rd.kRow {f : Frag} {A : List HP} {b n o : Nat} {kv : Nat → Nat → Int} (h : Rd f A b 0 (kRow n kv)) (ho : o < n) : Rd f A b (o * 11) (v11 (kv o)) :=
  h.part (fun i hi => by
    have hi : i < 11 := hi
    rw [kRow_get ho hi, v11_get _ hi]) (by rw [kRow_len]; show o * 11 + 11 ≤ _; omega)
theorem v11_upd (d : Nat → Int) (v : Int) {k : Nat} (h : k < 11) : SetV (v11 d) k (.int .u64 v) (v11 (updF d k v)) := by
  have e : v11 (updF d k v) = (v11 d).set k (.int .u64 v) := by
    match k, h with
    | 0, _ => rfl
    | 1, _ => rfl
    | 2, _ => rfl
    | 3, _ => rfl
    | 4, _ => rfl
    | 5, _ => rfl
    | 6, _ => rfl
    | 7, _ => rfl
    | 8, _ => rfl
    | 9, _ => rfl
    | 10, _ => rfl
  rw [e]
  exact SetV.mk _ h
theorem v11_congr {a b : Nat → Int} (h : ∀ i, i < 11 → a i = b i) : v11 a = v11 b := v11_iff.2 h
def KAt (f : Frag) (kb n : Nat) (kv : Nat → Nat → Int) : Prop := ∃ T, f kb = some (.cells (kRow n kv).toArray T (0, 0))
theorem KAt.mono {f g : Frag} (h : Le f g) {kb n : Nat} {kv : Nat → Nat → Int} (hk : KAt f kb n kv) : KAt g kb n kv := by
  obtain ⟨T, hk⟩ := hk
  exact ⟨T, h _ _ hk⟩
theorem KAt.of {kb n : Nat} {T : TypeId} {kv : Nat → Nat → Int} {f g : Frag} (h : row kb T (kRow n kv) g) (hd : Dj f g) : KAt (un f g) kb n kv := by
  have hg : g = sing kb (.cells (kRow n kv).toArray T (0, 0)) := h
  refine ⟨T, Le.right hd _ _ ?_⟩
  rw [hg]; simp [sing]
def A12.Has (f : Frag) (x : A12) : Prop := BAt f x.qp x.q
def few12 (l : List A12) : Bool := decide (l.length ≤ 100) && l.all fun x => decide (x.q.length ≤ 20)
section
variable (f : Frag) (F : List HP)
theorem rodd_fn (n : UInt8) : Fn Tryz.prog 52 [.int .u8 (n.toNat : Nat)] f F (Ret (.int .i64 ((3 + 2 * (n.toNat % 5) : Nat) : Int)) f F) := by
  have hn := n.toNat_lt
  refine Fn.enter Tryz.func52 rfl Tryz.ntmps52 rfl (L := [(0, _)]) ⟨rfl, trivial⟩ fun base => ?_
  repeat (first | (refine H.rem (z := ((n.toNat % 5 : Nat) : Int)) rfl rfl rfl (by decide) (by rw [Int.ofNat_tmod]; rfl) rfl ?_) | ((first | apply H.move | apply H.assign); (iterate 3 exact rfl)) | (first | apply H.seq | apply H.region | apply H.nil | apply H.then_normal) | ((first | (apply H.ar; (iterate 4 exact rfl)) | (apply H.conv_int; (iterate 2 exact rfl))); (with_reducible apply wr_i64; omega); exact rfl) | (apply H.ret))
  refine H.ret1 rfl rfl (fun _ h => h) ⟨?_, rfl, rfl⟩
  congr 1
end
end Go.Proofs.YtoigpgdmignaoaaGreatDoor

/- Layer 12: how many are known; whether a message may be one of so many replicas. -/
namespace Go.Proofs.YtoigpgdmignaoaaGreatDoor
open Go
theorem updF_lt {d : Nat → Int} {i : Nat} : updF (fun j => if j < i then d j else 0) i (d i) = fun j => if j < i + 1 then d j else 0 := by
  funext j
  show (if j = i then d i else if j < i then d j else 0) = if j < i + 1 then d j else 0
  by_cases e : j = i
  · subst e; rw [if_pos rfl, if_pos (by omega)]
  · rw [if_neg e]
    by_cases h : j < i
    · rw [if_pos h, if_pos (by omega)]
    · rw [if_neg h, if_neg (by omega)]
theorem c11_rd {f : Frag} {A A' : List HP} {lb n : Nat} {l : List MV} {i : LP} (h : At A (row lb 120 (loreCells n l i)) A' (row lb 120 (loreCells n l i))) : Rd f A lb (0 + 1) (c11 (fun k => .slice (i.P k) (strmV l k).length (i.C k))) := by
  have h1 := Rd.ofRow (f := f) h
  unfold loreCells at h1
  exact h1.sub rfl
theorem knownS_len (l : List MV) (k : Nat) : knownS (strm (l.map MV.m)) k = ((strmV l k).length : Nat) := by
  show (((strm (l.map MV.m) k).length : Nat) : Int) = _
  rw [← strmV_map, List.length_map]
theorem strmV_le (l : List MV) (k : Nat) : (strmV l k).length ≤ l.length := List.length_filter_le _ _
section
variable (f : Frag) (F : List HP)
set_option maxHeartbeats 800000 in
theorem known_fn {fl : Frag} {lb n : Nat} {l : List MV} : Fn Tryz.prog 20 [.pointer (some ⟨lb, 0, none⟩)] f (loreH fl lb n l :: F) (Ret (.agg (v11 (knownS (strm (l.map MV.m)))).toArray) f (loreH fl lb n l :: F)) := by
  have hk := knownS_len l
  generalize knownS (strm (l.map MV.m)) = kn at hk ⊢
  have hle := strmV_le l
  refine Fn.unpack fun i hi => ?_
  have hll := hi.2.1
  refine Fn.enter Tryz.func20 rfl Tryz.ntmps20 rfl (L := [(0, _)]) ⟨rfl, trivial⟩ fun base => ?_
  repeat ((first | apply H.seq | apply H.region))
  refine H.alloc (ls := v11 fun _ => 0) rfl rfl rfl fun ob => ?_
  repeat (first | ((first | apply H.move | apply H.nilCheck); (iterate 3 exact rfl)) | (apply H.fieldAddr; (iterate 3 exact rfl); exact inferInstance; exact rfl) | (first | apply H.seq | apply H.region | apply H.nil | apply H.then_normal) | ((apply H.ptrNil); (iterate 5 exact rfl)) | (apply H.cond_true; exact rfl))
  refine H.loadN (ls := c11 (fun k => .slice (i.P k) (strmV l k).length (i.C k))) rfl rfl rfl (c11_rd (.there _ (.here _ _ _))) rfl rfl ?_
  repeat (first | ((apply H.move); (iterate 3 exact rfl)) | (first | apply H.nil | apply H.then_normal) | (apply H.block))
  refine H.loop (ι := Nat) (fun k => [(11, .int .i64 (k : Int)), (10, .agg (c11 (fun k => .slice (i.P k) (strmV l k).length (i.C k))).toArray), (2, .pointer (some ⟨ob, 0, none⟩))]) (fun _ => f)
    (fun k => row ob 37 (v11 fun j => if j < k then kn j else 0) :: row lb 120 (loreCells n l i) :: fam (strH l i) 11 :: ordH l i :: F) (fun k => k ≤ 11) (fun k => 11 - k) 0 (Nat.zero_le _) ⟨rfl, rfl, rfl, trivial⟩ rfl rfl fun k hk11 => ?_
  have hk11 : k ≤ 11 := hk11
  by_cases hlt : k < 11
  · have h1 := hle k
    have h2 := hk k
    repeat (first | ((apply H.move); (iterate 3 exact rfl)) | (first | apply H.seq | apply H.region | apply H.nil | apply H.then_normal) | ((apply H.cmp); (iterate 5 exact rfl)) | (first | apply H.skip | apply H.block) | (apply H.cond_yes; exact rfl; (omega)))
    refine H.indexV (i := k) rfl rfl rfl rfl hlt rfl (c11_get _ hlt) rfl ?_
    repeat (first | ((first | apply H.move | apply H.assign | apply H.len_slice); (iterate 3 exact rfl)) | (first | apply H.region | apply H.nil | apply H.then_normal) | ((apply H.conv_int; (iterate 2 exact rfl)); (with_reducible apply wr_u64; omega); exact rfl))
    refine H.index_array (i := k) rfl rfl rfl rfl hlt rfl ?_
    refine H.store1 (v := .int .u64 (kn k)) (ls' := v11 fun j => if j < k + 1 then kn j else 0) rfl rfl (by rw [h2]; rfl) rfl (.here _ _ _) (by rw [Nat.mul_one, Nat.zero_add, ← updF_lt]; exact v11_upd _ _ hlt) ?_
    repeat (first | ((apply H.move); (iterate 3 exact rfl)) | (first | apply H.region | apply H.nil | apply H.then_normal) | ((apply H.ar; (iterate 4 exact rfl)); (with_reducible apply wr_i64_n1; omega); exact rfl) | (apply H.in_normal))
    exact H.again (k + 1) (by show k + 1 ≤ 11; omega) (by show 11 - (k + 1) < 11 - k; omega) ⟨rfl, rfl, rfl, trivial⟩ rfl rfl
  · have e : k = 11 := by omega
    subst e
    have e : (v11 fun j => if j < 11 then kn j else 0) = v11 kn := v11_congr fun j hj => if_pos hj
    rw [e]
    repeat (first | (first | apply H.seq | apply H.region | apply H.nil | apply H.then_normal) | ((apply H.cmp); (iterate 5 exact rfl)) | (apply H.cond_false; exact rfl) | (first | apply H.then_exit | apply H.exit | apply H.in_hit | apply H.loop_exit))
    refine H.loadN (ls := v11 kn) rfl rfl rfl (Rd.ofRow (.here _ _ _)) rfl rfl ?_
    refine H.storeN (ls := v11 kn) (vs := v11 kn) (ls' := v11 kn) rfl rfl rfl (allOne_mem rfl) rfl rfl (Nat.le_refl 11) (.here _ _ _) ?_
    repeat (first | (first | apply H.nil | apply H.then_normal) | (apply H.ret))
    exact H.retD rfl rfl rfl (Rd.ofRow (.here _ _ _)) rfl (fun _ s => (s.drop (.here _ _)).imp (lore_fold i hi)) ⟨rfl, rfl, rfl⟩
/-! ### slices.ContainsFunc -/
def idxI {α : Type} (pr : α → Bool) (l : List α) : Int := match l.findIdx? pr with
  | some i => (i : Nat)
  | none => -1
theorem idxI_any {α : Type} (pr : α → Bool) (l : List α) : decide (0 ≤ idxI pr l) = l.any pr := by
  unfold idxI
  cases h : l.findIdx? pr with
  | none =>
    rw [List.findIdx?_eq_none_iff] at h
    have : l.any pr = false := by rw [List.any_eq_false]; intro x hx; simp [h x hx]
    rw [this]; decide
  | some i =>
    obtain ⟨hi, h1, _⟩ := List.findIdx?_eq_some_iff_getElem.1 h
    have : l.any pr = true := by rw [List.any_eq_true]; exact ⟨l[i], List.getElem_mem hi, h1⟩
    rw [this]; exact decide_eq_true (show (0 : Int) ≤ (i : Nat) by omega)
theorem idxI_at {α : Type} {pr : α → Bool} {l : List α} {i : Nat} {x : α} (h : l[i]? = some x) (hp : pr x = true) (hb : ∀ j y, j < i → l[j]? = some y → pr y = false) : idxI pr l = (i : Nat) := by
  have hi : i < l.length := by
    rcases Nat.lt_or_ge i l.length with h1 | h1
    · exact h1
    · rw [List.getElem?_eq_none h1] at h; cases h
  have hx : l[i] = x := by rw [List.getElem?_eq_getElem hi] at h; exact Option.some.inj h
  have : l.findIdx? pr = some i := List.findIdx?_eq_some_iff_getElem.2 ⟨hi, by rw [hx]; exact hp, fun j hj => by
    have := hb j l[j] hj (List.getElem?_eq_getElem (by omega))
    simp [this]⟩
  unfold idxI
  rw [this]
theorem idxI_none {α : Type} {pr : α → Bool} {l : List α} (hb : ∀ j y, j < l.length → l[j]? = some y → pr y = false) : idxI pr l = -1 := by
  have : l.findIdx? pr = none := by
    rw [List.findIdx?_eq_none_iff]
    intro x hx
    obtain ⟨j, hj⟩ := List.getElem?_of_mem hx
    rcases Nat.lt_or_ge j l.length with h1 | h1
    · exact hb j x h1 hj
    · rw [List.getElem?_eq_none h1] at hj; cases hj
  unfold idxI
  rw [this]
theorem idxQ_fn {p : Option Addr} {c : Nat} {q : List (Int × Int)} (hq : QAt f p q) (hl : q.length ≤ 1000000000) {fid : FuncId} {cs : List Value} [Fun Tryz.prog fid] (pr : Int × Int → Bool)
    (hc : ∀ x, x ∈ q → Fn Tryz.prog fid ([] ++ [.agg (pairV x).toArray] ++ cs) f F (Ret (.bool (pr x)) f F)) :
    Fn Tryz.prog 101 [.slice p q.length c, .func (.func fid) #[] cs.toArray] f F (Ret (.int .i64 (idxI pr q)) f F) := by
  refine Fn.enter Tryz.func101 rfl Tryz.ntmps101 rfl (L := [(0, _), (1, _)]) ⟨rfl, rfl, trivial⟩ fun base => ?_
  repeat (first | ((first | apply H.move | apply H.assign | apply H.len_slice); (iterate 3 exact rfl)) | (first | apply H.seq | apply H.region | apply H.nil | apply H.then_normal) | (apply H.block))
  refine H.loop (ι := Nat) (fun i => [(8, .int .i64 (i : Int)), (7, .int .i64 (q.length : Nat)), (0, .slice p q.length c), (1, .func (.func fid) #[] cs.toArray)]) (fun _ => f) (fun _ => F) (fun i => i ≤ q.length ∧ ∀ j y, j < i → q[j]? = some y → pr y = false) (fun i => q.length - i) 0 ⟨Nat.zero_le _, fun j y hj => by omega⟩ ⟨rfl, rfl, rfl, rfl, trivial⟩ rfl rfl fun i hi => ?_
  obtain ⟨hi, hb⟩ : i ≤ q.length ∧ ∀ j y, j < i → q[j]? = some y → pr y = false := hi
  by_cases hlt : i < q.length
  · have hx : q[i]? = some q[i] := List.getElem?_eq_getElem hlt
    generalize q[i] = x at hx
    have hxm := List.mem_of_getElem? hx
    obtain ⟨b, off, cs2, T, fr, rfl, hfb, hcs⟩ := hq i x hx
    have rd : ∀ A, Rd f A b (off + i * 2) (pairV x) := fun A => Rd.imm hfb hcs
    have hcx := hc x hxm
    repeat (first | ((first | apply H.move | apply H.assign); (iterate 3 exact rfl)) | (first | apply H.seq | apply H.region | apply H.nil | apply H.then_normal) | ((apply H.cmp); (iterate 5 exact rfl)) | (first | apply H.skip | apply H.block) | (apply H.cond_yes; exact rfl; (omega)))
    refine H.index_slice rfl rfl rfl rfl hlt rfl ?_
    refine H.loadN (ls := pairV x) rfl rfl rfl (rd _) rfl rfl ?_
    cases hp : pr x with
    | true =>
      rw [hp] at hcx
      refine H.callVR (fs := []) (cs := cs) rfl rfl rfl rfl hcx ?_
      repeat (first | ((first | apply H.move | apply H.assign); (iterate 3 exact rfl)) | (first | apply H.seq | apply H.region | apply H.nil | apply H.then_normal) | (apply H.cond_true; exact rfl) | (first | apply H.ret | apply H.then_ret | apply H.in_ret | apply H.loop_ret))
      refine H.ret1 rfl rfl (fun _ h => h) ⟨?_, rfl, rfl⟩
      rw [idxI_at hx hp hb]
    | false =>
      rw [hp] at hcx
      refine H.callVR (fs := []) (cs := cs) rfl rfl rfl rfl hcx ?_
      repeat (first | ((apply H.move); (iterate 3 exact rfl)) | (first | apply H.region | apply H.nil | apply H.then_normal) | ((apply H.ar; (iterate 4 exact rfl)); (with_reducible apply wr_i64_n1; omega); exact rfl) | (apply H.cond_false; exact rfl) | (first | apply H.skip | apply H.in_normal))
      refine H.again (i + 1) ⟨by show i + 1 ≤ q.length; omega, fun j y hj hy => ?_⟩ (by show q.length - (i + 1) < q.length - i; omega) ⟨rfl, rfl, rfl, rfl, trivial⟩ rfl rfl
      by_cases e : j = i
      · subst e; rw [hx] at hy; cases hy; exact hp
      · exact hb j y (by omega) hy
  · have e : i = q.length := by omega
    subst e
    repeat (first | ((apply H.assign); (iterate 3 exact rfl)) | (first | apply H.seq | apply H.region | apply H.nil | apply H.then_normal) | ((apply H.cmp); (iterate 5 exact rfl)) | (first | apply H.ret | apply H.then_exit | apply H.exit | apply H.in_hit | apply H.loop_exit) | (apply H.cond_no; exact rfl; (omega)))
    refine H.ret1 rfl rfl (fun _ h => h) ⟨?_, rfl, rfl⟩
    rw [idxI_none hb]
theorem hasQ_fn {p : Option Addr} {c : Nat} {q : List (Int × Int)} (hq : QAt f p q) (hl : q.length ≤ 1000000000) {fid : FuncId} {cs : List Value} [Fun Tryz.prog fid] (pr : Int × Int → Bool)
    (hc : ∀ x, x ∈ q → Fn Tryz.prog fid ([] ++ [.agg (pairV x).toArray] ++ cs) f F (Ret (.bool (pr x)) f F)) :
    Fn Tryz.prog 79 [.slice p q.length c, .func (.func fid) #[] cs.toArray] f F (Ret (.bool (q.any pr)) f F) := by
  have h1 := idxI_any pr q
  refine Fn.enter Tryz.func79 rfl Tryz.ntmps79 rfl (L := [(0, _), (1, _)]) ⟨rfl, rfl, trivial⟩ fun base => ?_
  repeat (first | ((first | apply H.move | apply H.assign); (iterate 3 exact rfl)) | (first | apply H.seq | apply H.region | apply H.nil | apply H.then_normal))
  refine H.callR rfl rfl rfl (idxQ_fn f F hq hl pr hc) ?_
  repeat (first | ((apply H.assign); (iterate 3 exact rfl)) | (first | apply H.nil | apply H.then_normal) | ((apply H.cmp); (iterate 5 exact rfl)) | (apply H.ret))
  refine H.ret1 rfl rfl (fun _ h => h) ⟨?_, rfl, rfl⟩
  rw [← h1]
theorem idxU_fn {p : Option Addr} {m c : Nat} {d : Nat → Int} (hr : ∀ i, i < m → ∃ b off, p = some ⟨b, off, none⟩ ∧ Rd1 f F b (off + i) (.int .u64 (d i))) (hm : m ≤ 1000000000) {fid : FuncId} {cs : List Value} [Fun Tryz.prog fid] (pr : Int → Bool)
    (hc : ∀ z, Fn Tryz.prog fid ([] ++ [.int .u64 z] ++ cs) f F (Ret (.bool (pr z)) f F)) :
    Fn Tryz.prog 102 [.slice p m c, .func (.func fid) #[] cs.toArray] f F (Ret (.int .i64 (idxI (fun i => pr (d i)) (List.range m))) f F) := by
  refine Fn.enter Tryz.func102 rfl Tryz.ntmps102 rfl (L := [(0, _), (1, _)]) ⟨rfl, rfl, trivial⟩ fun base => ?_
  repeat (first | ((first | apply H.move | apply H.assign | apply H.len_slice); (iterate 3 exact rfl)) | (first | apply H.seq | apply H.region | apply H.nil | apply H.then_normal) | (apply H.block))
  refine H.loop (ι := Nat) (fun i => [(8, .int .i64 (i : Int)), (7, .int .i64 (m : Nat)), (0, .slice p m c), (1, .func (.func fid) #[] cs.toArray)]) (fun _ => f) (fun _ => F) (fun i => i ≤ m ∧ ∀ j, j < i → pr (d j) = false) (fun i => m - i) 0 ⟨Nat.zero_le _, fun j hj => by omega⟩ ⟨rfl, rfl, rfl, rfl, trivial⟩ rfl rfl fun i hi => ?_
  obtain ⟨hi, hb⟩ : i ≤ m ∧ ∀ j, j < i → pr (d j) = false := hi
  by_cases hlt : i < m
  · obtain ⟨b, off, rfl, hrd⟩ := hr i hlt
    have hcx := hc (d i)
    repeat (first | ((first | apply H.move | apply H.assign); (iterate 3 exact rfl)) | (first | apply H.seq | apply H.region | apply H.nil | apply H.then_normal) | ((apply H.cmp); (iterate 5 exact rfl)) | (first | apply H.skip | apply H.block) | (apply H.cond_yes; exact rfl; (omega)))
    refine H.index1 (i := i) rfl rfl rfl rfl hlt rfl ?_
    refine H.load1 rfl rfl rfl hrd rfl ?_
    cases hp : pr (d i) with
    | true =>
      rw [hp] at hcx
      refine H.callVR (fs := []) (cs := cs) rfl rfl rfl rfl hcx ?_
      repeat (first | ((first | apply H.move | apply H.assign); (iterate 3 exact rfl)) | (first | apply H.seq | apply H.region | apply H.nil | apply H.then_normal) | (apply H.cond_true; exact rfl) | (first | apply H.ret | apply H.then_ret | apply H.in_ret | apply H.loop_ret))
      refine H.ret1 rfl rfl (fun _ h => h) ⟨?_, rfl, rfl⟩
      rw [idxI_at (i := i) (x := i) (by rw [List.getElem?_range hlt]) hp fun j y hj hy => by
        rw [List.getElem?_range (by omega)] at hy; cases hy; exact hb j hj]
    | false =>
      rw [hp] at hcx
      refine H.callVR (fs := []) (cs := cs) rfl rfl rfl rfl hcx ?_
      repeat (first | ((apply H.move); (iterate 3 exact rfl)) | (first | apply H.region | apply H.nil | apply H.then_normal) | ((apply H.ar; (iterate 4 exact rfl)); (with_reducible apply wr_i64_n1; omega); exact rfl) | (apply H.cond_false; exact rfl) | (first | apply H.skip | apply H.in_normal))
      refine H.again (i + 1) ⟨by show i + 1 ≤ m; omega, fun j hj => ?_⟩ (by show m - (i + 1) < m - i; omega) ⟨rfl, rfl, rfl, rfl, trivial⟩ rfl rfl
      by_cases e : j = i
      · subst e; exact hp
      · exact hb j (by omega)
  · have e : i = m := by omega
    subst e
    repeat (first | ((apply H.assign); (iterate 3 exact rfl)) | (first | apply H.seq | apply H.region | apply H.nil | apply H.then_normal) | ((apply H.cmp); (iterate 5 exact rfl)) | (first | apply H.ret | apply H.then_exit | apply H.exit | apply H.in_hit | apply H.loop_exit) | (apply H.cond_no; exact rfl; (omega)))
    refine H.ret1 rfl rfl (fun _ h => h) ⟨?_, rfl, rfl⟩
    rw [idxI_none fun j y hj hy => by
      have hj : j < i := by rw [List.length_range] at hj; exact hj
      rw [List.getElem?_range hj] at hy; cases hy; exact hb j hj]
theorem hasU_fn {p : Option Addr} {m c : Nat} {d : Nat → Int} (hr : ∀ i, i < m → ∃ b off, p = some ⟨b, off, none⟩ ∧ Rd1 f F b (off + i) (.int .u64 (d i))) (hm : m ≤ 1000000000) {fid : FuncId} {cs : List Value} [Fun Tryz.prog fid] (pr : Int → Bool)
    (hc : ∀ z, Fn Tryz.prog fid ([] ++ [.int .u64 z] ++ cs) f F (Ret (.bool (pr z)) f F)) :
    Fn Tryz.prog 81 [.slice p m c, .func (.func fid) #[] cs.toArray] f F (Ret (.bool ((List.range m).any fun i => pr (d i))) f F) := by
  have h1 := idxI_any (fun i => pr (d i)) (List.range m)
  refine Fn.enter Tryz.func81 rfl Tryz.ntmps81 rfl (L := [(0, _), (1, _)]) ⟨rfl, rfl, trivial⟩ fun base => ?_
  repeat (first | ((first | apply H.move | apply H.assign); (iterate 3 exact rfl)) | (first | apply H.seq | apply H.region | apply H.nil | apply H.then_normal))
  refine H.callR rfl rfl rfl (idxU_fn f F hr hm pr hc) ?_
  repeat (first | ((apply H.assign); (iterate 3 exact rfl)) | (first | apply H.nil | apply H.then_normal) | ((apply H.cmp); (iterate 5 exact rfl)) | (apply H.ret))
  refine H.ret1 rfl rfl (fun _ h => h) ⟨?_, rfl, rfl⟩
  rw [← h1]
theorem fits1_fn {lb pb n : Nat} {l : List MV} {i : LP} (x : Int × Int) : Fn Tryz.prog 80 ([] ++ [.agg (pairV x).toArray] ++ [.pointer (some ⟨pb, 0, none⟩)]) f (row pb 27 [.pointer (some ⟨lb, 0, none⟩)] :: row lb 120 (loreCells n l i) :: F)
    (Ret (.bool (decide ((n : Int) < x.1))) f (row pb 27 [.pointer (some ⟨lb, 0, none⟩)] :: row lb 120 (loreCells n l i) :: F)) := by
  refine Fn.enter Tryz.func80 rfl Tryz.ntmps80 rfl (L := [(0, _), (1, _)]) ⟨rfl, rfl, trivial⟩ fun base => ?_
  repeat ((first | apply H.seq | apply H.region))
  refine H.box (ls := pairV x) rfl rfl rfl rfl fun qb => ?_
  repeat (first | ((apply H.assign); (iterate 3 exact rfl)) | (first | apply H.seq | apply H.nil | apply H.then_normal))
  refine H.drawQ (by kernel_rfl) (by decide +kernel) (by repeat (first | exact blind_fn | refine blind_seq ?_ | refine blind_block ?_ | refine blind_loop ?_)) ?_
  repeat (first | ((first | apply HQ.assign | apply HQ.nilCheck); (iterate 3 exact rfl)) | (apply HQ.fieldAddr; (iterate 3 exact rfl); exact inferInstance; exact rfl) | (apply HQ.load1; (iterate 3 exact rfl); apply Rd1.ofRow; (repeat (first | exact .here _ _ _ | apply At.there)); (iterate 2 exact rfl)) | ((apply HQ.done0); exact rfl) | ((apply HQ.cmp); (iterate 5 exact rfl)))
  repeat (first | (apply H.then_normal) | (apply H.ret))
  refine H.drop (.here _ _) ?_
  exact H.ret1 rfl rfl (fun _ h => h) ⟨rfl, rfl, rfl⟩
theorem fits2_fn (z : Int) : Fn Tryz.prog 82 ([] ++ [.int .u64 z] ++ []) f F (Ret (.bool (decide (0 < z))) f F) := by
  refine Fn.enter Tryz.func82 rfl Tryz.ntmps82 rfl (L := [(0, _)]) ⟨rfl, trivial⟩ fun base => ?_
  repeat (first | ((first | apply H.move | apply H.assign); (iterate 3 exact rfl)) | (first | apply H.seq | apply H.region | apply H.nil | apply H.then_normal) | ((apply H.cmp); (iterate 5 exact rfl)) | (apply H.ret))
  exact H.ret1 rfl rfl (fun _ h => h) ⟨rfl, rfl, rfl⟩
end
end Go.Proofs.YtoigpgdmignaoaaGreatDoor

/- Layer 12: whether a message may be one of so many replicas; why a message is not taken. Condition: the table of the standard stands in the fragment. -/
namespace Go.Proofs.YtoigpgdmignaoaaGreatDoor
open Go
theorem any_all {α : Type} (l : List α) (p : α → Bool) (q : α → Bool) (h : ∀ x, q x = !p x) : l.all q = !l.any p := by
  induction l with
  | nil => rfl
  | cons a l ih => rw [List.all_cons, List.any_cons, ih, h, Bool.not_or]
theorem deps_any {n : Nat} (hn : n ≤ 11) (d : Nat → Int) : ((List.range 11).all fun i => decide (i < n) || decide (d i ≤ 0)) = !(List.range (11 - n)).any fun i => decide (0 < d (n + i)) := by
  cases h : (List.range (11 - n)).any fun i => decide (0 < d (n + i)) with
  | true =>
    rw [List.any_eq_true] at h
    obtain ⟨i, hi, h⟩ := h
    have hi := List.mem_range.1 hi
    rw [Bool.not_true, List.all_eq_false]
    refine ⟨n + i, List.mem_range.2 (by omega), ?_⟩
    have h := of_decide_eq_true h
    rw [decide_eq_false (by omega), decide_eq_false (by omega)]; decide
  | false =>
    rw [List.any_eq_false] at h
    rw [Bool.not_false, List.all_eq_true]
    intro i hi
    have hi := List.mem_range.1 hi
    rw [Bool.or_eq_true, decide_eq_true_eq, decide_eq_true_eq]
    by_cases hlt : i < n
    · exact .inl hlt
    · have := h (i - n) (List.mem_range.2 (by omega))
      rw [decide_eq_true_eq, show n + (i - n) = i by omega] at this
      exact .inr (by omega)
theorem fitsB_q {n : Nat} (hn : n ≤ 11) {m : Msg} (h1 : m.may = true) (h2 : m.origin ≤ (n : Int)) : fitsB n m = (!(m.body.q.any fun p => decide ((n : Int) < p.1)) && !(List.range (11 - n)).any fun i => decide (0 < m.deps (n + i))) := by
  unfold fitsB
  rw [h1, decide_eq_true h2, deps_any hn, any_all m.body.q (fun p => decide ((n : Int) < p.1)) (fun p => decide (p.1 ≤ (n : Int))) fun p => by
    by_cases h : (n : Int) < p.1
    · rw [decide_eq_true h, decide_eq_false (by omega)]; rfl
    · rw [decide_eq_false h, decide_eq_true (by omega)]; rfl]
  rfl
section
variable (f : Frag) (F : List HP)
set_option maxHeartbeats 1600000 in
theorem fits_fn {lb n : Nat} {l : List MV} {i : LP} (hn : n ≤ 11) {x : MV} (hx : x.Good f) : Fn Tryz.prog 57 [.pointer (some ⟨lb, 0, none⟩), .agg x.vals.toArray] f (row lb 120 (loreCells n l i) :: F)
    (Ret (.bool (fitsB n x.m)) f (row lb 120 (loreCells n l i) :: F)) := by
  have hmay := fun G => mmay_fn f G hx
  by_cases hm : x.m.may = true
  · rw [hm] at hmay
    by_cases ho : x.m.origin ≤ (n : Int)
    · rw [fitsB_q hn hm ho]
      refine Fn.enter Tryz.func57 rfl Tryz.ntmps57 rfl (L := [(0, _), (1, _)]) ⟨rfl, rfl, trivial⟩ fun base => ?_
      repeat ((first | apply H.seq | apply H.region))
      refine H.box (ls := [.pointer (some ⟨lb, 0, none⟩)]) rfl rfl rfl rfl fun pb => ?_
      refine H.box (ls := x.vals) rfl rfl rfl rfl fun mb => ?_
      repeat (first | ((apply H.assign); (iterate 3 exact rfl)) | (first | apply H.seq | apply H.nil | apply H.then_normal))
      refine H.drawB (by kernel_rfl) (by decide +kernel) (by repeat (first | exact blind_fn | refine blind_seq ?_ | refine blind_block ?_ | refine blind_loop ?_)) (S := [_, _, _]) rfl ?_
      refine HB.quiet [(0, false)] 11 (by kernel_rfl) ?_
      refine HQ.loadN (ls := x.vals) rfl rfl rfl (Rd.ofRow (.here _ _ _)) rfl rfl ?_
      refine HQ.more rfl ?_
      refine HB.ev1 (i := 1) (by kernel_rfl) rfl ?_
      refine H.callR rfl rfl rfl (hmay _) ?_
      repeat ((apply H.nil))
      refine H.on0 rfl ?_
      refine HB.quiet [(2, false), (3, false), (4, false), (5, false), (6, false), (7, false), (8, false), (9, false), (10, false), (11, false)] 0 (by kernel_rfl) ?_
      repeat (first | ((first | apply HQ.move | apply HQ.nilCheck); (iterate 3 exact rfl)) | (apply HQ.fieldAddr; (iterate 3 exact rfl); exact inferInstance; exact rfl) | (apply HQ.load1; (iterate 3 exact rfl); apply Rd1.ofRow; (repeat (first | exact .here _ _ _ | apply At.there)); (iterate 2 exact rfl)) | ((apply HQ.cmp); (iterate 5 exact rfl)) | ((first | apply HQ.pickF | apply HQ.not); (iterate 4 exact rfl)))
      refine HQ.more rfl ?_
      refine HB.done (by kernel_rfl) ?_
      repeat (first | (apply H.fieldAddr; (iterate 3 exact rfl); exact inferInstance; exact rfl) | (apply H.load1; (iterate 3 exact rfl); apply Rd1.ofRow; (repeat (exact .here _ _ _)); (iterate 2 exact rfl)) | (first | apply H.seq | apply H.region | apply H.then_normal) | ((apply H.makeFunc); (iterate 4 exact rfl)) | (apply H.skip) | (apply H.cond_no; exact rfl; (omega)))
      refine H.front (x := row lb _ _) (by repeat (first | exact .here _ _ | apply Pull.there)) ?_
      refine H.front (x := row pb _ _) (by repeat (first | exact .here _ _ | apply Pull.there)) ?_
      have hq : x.m.body.q.length ≤ 1000000000 := by have := hx.2.1; omega
      refine H.callR rfl rfl rfl (hasQ_fn f _ (c := x.qc) hx.1 hq (fun p => decide ((n : Int) < p.1)) fun p _ => fits1_fn f _ p) ?_
      cases hany : x.m.body.q.any fun p => decide ((n : Int) < p.1) with
      | true =>
        refine H.not (b := true) (c := false) rfl rfl rfl rfl ?_
        repeat (first | ((first | apply H.move | apply H.assign | apply H.nilCheck); (iterate 3 exact rfl)) | (first | apply H.nil | apply H.then_normal) | (apply H.pass; (iterate 2 exact rfl)) | ((apply H.pickF); (iterate 4 exact rfl)) | (apply H.ret))
        refine H.drop (.here _ _) ?_
        refine H.drop (x := row mb _ _) (by repeat (first | exact .here _ _ | apply Pull.there)) ?_
        exact H.ret1 rfl rfl (fun _ h => h) ⟨rfl, rfl, rfl⟩
      | false =>
        refine H.not (b := false) (c := true) rfl rfl rfl rfl ?_
        repeat (first | ((first | apply H.move | apply H.nilCheck); (iterate 3 exact rfl)) | (apply H.fieldAddr; (iterate 3 exact rfl); exact inferInstance; exact rfl) | (apply H.load1; (iterate 3 exact rfl); apply Rd1.ofRow; (repeat (first | exact .here _ _ _ | apply At.there)); (iterate 2 exact rfl)))
        refine H.sliceArr (lo := some _) (hi := none) (mx := none) (lv := n) (hv := 11) (mv := 11) rfl rfl ⟨_, _, rfl, rfl⟩ rfl rfl (fun h => by cases h) hn (by decide) (by decide) rfl ?_
        skip
        refine H.callR rfl rfl rfl (hasU_fn f _ (p := slP (some ⟨mb, 2, none⟩) n 11 1) (m := 11 - n) (c := 11 - n) (d := fun i => x.m.deps (n + i)) (fun i hi => ⟨mb, 2 + n, by unfold slP; rw [if_neg (by omega)]; show some (Addr.add ⟨mb, 2, none⟩ (n * 1)) = _; rw [add_none, Nat.mul_one], ?_⟩) (by omega) (fun z => decide (0 < z)) fun z => fits2_fn f _ z) ?_
        · rw [show 2 + n + i = 2 + (n + i) by omega]
          exact Rd1.of (off := 2) (msg_deps (m := x.m) (q := x.qp) (qc := x.qc) (.there _ (.there _ (.here _ _ _)))) (v11_get x.m.deps (by omega))
        generalize (List.range (11 - n)).any (fun i => decide (0 < x.m.deps (n + i))) = b
        refine H.not (b := b) (c := !b) rfl rfl rfl rfl ?_
        repeat (first | ((apply H.assign); (iterate 3 exact rfl)) | (first | apply H.nil | apply H.then_normal) | (apply H.pickT; (iterate 4 exact rfl)) | (apply H.ret))
        refine H.drop (.here _ _) ?_
        refine H.drop (x := row mb _ _) (by repeat (first | exact .here _ _ | apply Pull.there)) ?_
        exact H.ret1 rfl rfl (fun _ h => h) ⟨rfl, rfl, rfl⟩
    · have e : fitsB n x.m = false := by unfold fitsB; rw [decide_eq_false ho]; simp
      rw [e]
      refine Fn.enter Tryz.func57 rfl Tryz.ntmps57 rfl (L := [(0, _), (1, _)]) ⟨rfl, rfl, trivial⟩ fun base => ?_
      repeat ((first | apply H.seq | apply H.region))
      refine H.box (ls := [.pointer (some ⟨lb, 0, none⟩)]) rfl rfl rfl rfl fun pb => ?_
      refine H.box (ls := x.vals) rfl rfl rfl rfl fun mb => ?_
      repeat (first | ((apply H.assign); (iterate 3 exact rfl)) | (first | apply H.seq | apply H.nil | apply H.then_normal))
      refine H.drawB (by kernel_rfl) (by decide +kernel) (by repeat (first | exact blind_fn | refine blind_seq ?_ | refine blind_block ?_ | refine blind_loop ?_)) (S := [_, _, _]) rfl ?_
      refine HB.quiet [(0, false)] 11 (by kernel_rfl) ?_
      refine HQ.loadN (ls := x.vals) rfl rfl rfl (Rd.ofRow (.here _ _ _)) rfl rfl ?_
      refine HQ.more rfl ?_
      refine HB.ev1 (i := 1) (by kernel_rfl) rfl ?_
      refine H.callR rfl rfl rfl (hmay _) ?_
      repeat ((apply H.nil))
      refine H.on0 rfl ?_
      refine HB.quiet [(2, false), (3, false), (4, false), (5, false), (6, false), (7, false), (8, false), (9, false), (10, false), (11, false)] 0 (by kernel_rfl) ?_
      repeat (first | ((first | apply HQ.move | apply HQ.nilCheck); (iterate 3 exact rfl)) | (apply HQ.fieldAddr; (iterate 3 exact rfl); exact inferInstance; exact rfl) | (apply HQ.load1; (iterate 3 exact rfl); apply Rd1.ofRow; (repeat (first | exact .here _ _ _ | apply At.there)); (iterate 2 exact rfl)) | ((apply HQ.cmp); (iterate 5 exact rfl)) | ((first | apply HQ.pickF | apply HQ.not); (iterate 4 exact rfl)))
      refine HQ.more rfl ?_
      refine HB.done (by kernel_rfl) ?_
      repeat (first | ((apply H.assign); (iterate 3 exact rfl)) | (first | apply H.seq | apply H.region | apply H.nil | apply H.then_normal) | (first | apply H.ret | apply H.then_ret) | (apply H.cond_yes; exact rfl; (omega)))
      refine H.drop (.here _ _) ?_
      refine H.drop (.here _ _) ?_
      exact H.ret1 rfl rfl (fun _ h => h) ⟨rfl, rfl, rfl⟩
  · have hm : x.m.may = false := Bool.eq_false_iff.2 hm
    have e : fitsB n x.m = false := by unfold fitsB; rw [hm]; rfl
    rw [hm] at hmay
    rw [e]
    refine Fn.enter Tryz.func57 rfl Tryz.ntmps57 rfl (L := [(0, _), (1, _)]) ⟨rfl, rfl, trivial⟩ fun base => ?_
    repeat ((first | apply H.seq | apply H.region))
    refine H.box (ls := [.pointer (some ⟨lb, 0, none⟩)]) rfl rfl rfl rfl fun pb => ?_
    refine H.box (ls := x.vals) rfl rfl rfl rfl fun mb => ?_
    repeat (first | ((apply H.assign); (iterate 3 exact rfl)) | (first | apply H.seq | apply H.nil | apply H.then_normal))
    refine H.drawB (by kernel_rfl) (by decide +kernel) (by repeat (first | exact blind_fn | refine blind_seq ?_ | refine blind_block ?_ | refine blind_loop ?_)) (S := [_, _, _]) rfl ?_
    refine HB.quiet [(0, false)] 11 (by kernel_rfl) ?_
    refine HQ.loadN (ls := x.vals) rfl rfl rfl (Rd.ofRow (.here _ _ _)) rfl rfl ?_
    refine HQ.more rfl ?_
    refine HB.ev1 (i := 1) (by kernel_rfl) rfl ?_
    refine H.callR rfl rfl rfl (hmay _) ?_
    repeat ((apply H.nil))
    refine H.on0 rfl ?_
    refine HB.quiet [(2, false), (3, false), (4, false), (5, false), (6, false), (7, false), (8, false), (9, false), (10, false), (11, false)] 0 (by kernel_rfl) ?_
    repeat (first | ((first | apply HQ.move | apply HQ.nilCheck); (iterate 3 exact rfl)) | (apply HQ.pass; (iterate 2 exact rfl)) | (apply HQ.pickT; (iterate 4 exact rfl)) | ((apply HQ.not); (iterate 4 exact rfl)))
    refine HQ.more rfl ?_
    refine HB.done (by kernel_rfl) ?_
    repeat (first | ((apply H.assign); (iterate 3 exact rfl)) | (first | apply H.seq | apply H.region | apply H.nil | apply H.then_normal) | (apply H.cond_true; exact rfl) | (first | apply H.ret | apply H.then_ret))
    refine H.drop (.here _ _) ?_
    refine H.drop (.here _ _) ?_
    exact H.ret1 rfl rfl (fun _ h => h) ⟨rfl, rfl, rfl⟩
end
end Go.Proofs.YtoigpgdmignaoaaGreatDoor

/- Layer 12: why a message is not taken. Condition: the table of the standard stands in the fragment. -/
namespace Go.Proofs.YtoigpgdmignaoaaGreatDoor
open Go
theorem strm_lenV (l : List MV) (o : Nat) : (strm (l.map MV.m) o).length = (strmV l o).length := by rw [← strmV_map, List.length_map]
theorem slc_deps {f : Frag} {A A' : List HP} {b n c : Nat} {T : TypeId} {xs : List MV} (h : At A (slc (some ⟨b, 0, none⟩) n c T 121 (xs.flatMap MV.vals)) A' (slc (some ⟨b, 0, none⟩) n c T 121 (xs.flatMap MV.vals))) {k : Nat} {y : MV} (hy : xs[k]? = some y) : Rd f A b (k * 121 + 2) (v11 y.m.deps) := by
  have h1 := Rd.slcElem (f := f) MV.len (by decide) h hy
  have e : y.vals = [.int .i64 y.m.origin, .int .u64 y.m.number] ++ v11 y.m.deps ++ (y.m.body.vals y.qp y.qc ++ b32 y.m.tag) := by unfold MV.vals Msg.vals; simp only [List.append_assoc]
  rw [e] at h1
  exact h1.sub rfl
theorem fits_at {n : Nat} {m : Msg} (h : fitsB n m = true) (hn : n ≤ 11) : ∃ o : Nat, orgI m = o ∧ m.origin - 1 = (o : Nat) ∧ o < n ∧ o < 11 ∧ 1 ≤ m.origin ∧ m.origin ≤ 11 := by
  have h1 := fits_org h
  refine ⟨(m.origin - 1).toNat, rfl, ?_⟩
  omega
section
variable (f : Frag) (F : List HP)
set_option maxHeartbeats 3200000 in
theorem lcheck_fn (htab : TabAt f) {fl : Frag} {lb n : Nat} {l : List MV} {x : MV} (hx : x.Good f) : Fn Tryz.prog 23 [.pointer (some ⟨lb, 0, none⟩), .agg x.vals.toArray] f (loreH fl lb n l :: F)
    (Ret (.int .i64 (chk n (strm (l.map MV.m)) x.m)) f (loreH fl lb n l :: F)) := by
  refine Fn.unpack fun i hi => ?_
  have hn := hi.2.2.2
  have hfits : ∀ {G}, Fn Tryz.prog 57 [.pointer (some ⟨lb, 0, none⟩), .agg x.vals.toArray] f (row lb 120 (loreCells n l i) :: G) (Ret (.bool (fitsB n x.m)) f (row lb 120 (loreCells n l i) :: G)) := fun {G} => fits_fn f G hn hx
  have hright : ∀ {G}, Fn Tryz.prog 58 [.agg x.vals.toArray] f G (Ret (.bool x.m.right) f G) := fun {G} => mright_fn f G htab hx
  cases h1 : fitsB n x.m with
  | false =>
    rw [h1] at hfits
    refine Fn.enter Tryz.func23 rfl Tryz.ntmps23 rfl (L := [(0, _), (1, _)]) ⟨rfl, rfl, trivial⟩ fun base => ?_
    repeat ((first | apply H.seq | apply H.region))
    refine H.box (ls := x.vals) rfl rfl rfl rfl fun mb => ?_
    repeat (first | ((first | apply H.move | apply H.assign); (iterate 3 exact rfl)) | (first | apply H.seq | apply H.region | apply H.nil | apply H.then_normal) | ((apply H.ptrNil); (iterate 5 exact rfl)) | (apply H.cond_false; exact rfl) | (apply H.block))
    refine H.loadN (ls := x.vals) rfl rfl rfl (Rd.ofRow (.here _ _ _)) rfl rfl ?_
    refine H.front (x := row lb _ _) (by repeat (first | exact .here _ _ | apply Pull.there)) ?_
    refine H.callR rfl rfl rfl hfits ?_
    refine H.not (b := _) (c := _) rfl rfl rfl rfl ?_
    repeat (first | ((apply H.assign); (iterate 3 exact rfl)) | (first | apply H.seq | apply H.region | apply H.nil | apply H.then_normal) | (apply H.cond_true; exact rfl) | (first | apply H.ret | apply H.then_ret | apply H.in_ret))
    refine H.front (x := ordH l i) (by repeat (first | exact .here _ _ | apply Pull.there)) ?_
    refine H.front (x := fam (strH l i) 11) (by repeat (first | exact .here _ _ | apply Pull.there)) ?_
    refine H.front (x := row lb _ _) (by repeat (first | exact .here _ _ | apply Pull.there)) ?_
    refine H.imp (lore_fold i hi) ?_
    refine H.drop (x := row mb _ _) (by repeat (first | exact .here _ _ | apply Pull.there)) ?_
    refine H.ret1 rfl rfl (fun _ h => h) ⟨?_, rfl, rfl⟩
    unfold chk
    rw [if_pos h1]
  | true =>
    obtain ⟨o, hoo, hoz, hon, ho11, ho1, ho2⟩ := fits_at h1 hn
    rw [h1] at hfits
    cases h2 : x.m.right with
    | false =>
      rw [h2] at hright
      refine Fn.enter Tryz.func23 rfl Tryz.ntmps23 rfl (L := [(0, _), (1, _)]) ⟨rfl, rfl, trivial⟩ fun base => ?_
      repeat ((first | apply H.seq | apply H.region))
      refine H.box (ls := x.vals) rfl rfl rfl rfl fun mb => ?_
      repeat (first | ((first | apply H.move | apply H.assign); (iterate 3 exact rfl)) | (first | apply H.seq | apply H.region | apply H.nil | apply H.then_normal) | ((apply H.ptrNil); (iterate 5 exact rfl)) | (apply H.cond_false; exact rfl) | (apply H.block))
      refine H.loadN (ls := x.vals) rfl rfl rfl (Rd.ofRow (.here _ _ _)) rfl rfl ?_
      refine H.front (x := row lb _ _) (by repeat (first | exact .here _ _ | apply Pull.there)) ?_
      refine H.callR rfl rfl rfl hfits ?_
      refine H.not (b := _) (c := _) rfl rfl rfl rfl ?_
      repeat (first | ((apply H.assign); (iterate 3 exact rfl)) | (first | apply H.seq | apply H.region | apply H.nil | apply H.then_normal) | (apply H.cond_false; exact rfl))
      refine H.loadN (ls := x.vals) rfl rfl rfl (Rd.ofRow (.there _ (.here _ _ _))) rfl rfl ?_
      refine H.callR rfl rfl rfl hright ?_
      refine H.not (b := _) (c := _) rfl rfl rfl rfl ?_
      repeat (first | ((apply H.assign); (iterate 3 exact rfl)) | (first | apply H.seq | apply H.region | apply H.nil | apply H.then_normal) | (apply H.cond_true; exact rfl) | (first | apply H.ret | apply H.then_ret | apply H.in_ret))
      refine H.front (x := ordH l i) (by repeat (first | exact .here _ _ | apply Pull.there)) ?_
      refine H.front (x := fam (strH l i) 11) (by repeat (first | exact .here _ _ | apply Pull.there)) ?_
      refine H.front (x := row lb _ _) (by repeat (first | exact .here _ _ | apply Pull.there)) ?_
      refine H.imp (lore_fold i hi) ?_
      refine H.drop (x := row mb _ _) (by repeat (first | exact .here _ _ | apply Pull.there)) ?_
      refine H.ret1 rfl rfl (fun _ h => h) ⟨?_, rfl, rfl⟩
      unfold chk
      rw [if_neg (by rw [h1]; decide), if_pos h2]
    | true =>
      rw [h2] at hright
      have hsl := strmV_le l o
      have hll := hi.2.1
      have hstr := loreCells_str n l i ho11
      have hlen := strm_lenV l o
      have hchk : chk n (strm (l.map MV.m)) x.m = if x.m.number ≤ ((strmV l o).length : Nat) then 13 else
          if x.m.number = (((strmV l o).length + 1 : Nat) : Int) ∧ 0 < (strmV l o).length ∧ aboveB (lastD (strm (l.map MV.m) o)) x.m.deps = true then 1 else
          if (((strmV l o).length + 1 : Nat) : Int) < x.m.number ∨ aboveB x.m.deps (knownS (strm (l.map MV.m))) = true then 12 else 0 := by
        unfold chk
        rw [if_neg (by rw [h1]; decide), if_neg (by rw [h2]; decide), hoo, hlen]
      by_cases h3 : x.m.number ≤ ((strmV l o).length : Nat)
      · generalize hs : (strmV l o).length = s at *
        refine Fn.enter Tryz.func23 rfl Tryz.ntmps23 rfl (L := [(0, _), (1, _)]) ⟨rfl, rfl, trivial⟩ fun base => ?_
        repeat ((first | apply H.seq | apply H.region))
        refine H.box (ls := x.vals) rfl rfl rfl rfl fun mb => ?_
        repeat (first | ((first | apply H.move | apply H.assign); (iterate 3 exact rfl)) | (first | apply H.seq | apply H.region | apply H.nil | apply H.then_normal) | ((apply H.ptrNil); (iterate 5 exact rfl)) | (apply H.cond_false; exact rfl) | (apply H.block))
        refine H.loadN (ls := x.vals) rfl rfl rfl (Rd.ofRow (.here _ _ _)) rfl rfl ?_
        refine H.front (x := row lb _ _) (by repeat (first | exact .here _ _ | apply Pull.there)) ?_
        refine H.callR rfl rfl rfl hfits ?_
        refine H.not (b := _) (c := _) rfl rfl rfl rfl ?_
        repeat (first | ((apply H.assign); (iterate 3 exact rfl)) | (first | apply H.seq | apply H.region | apply H.nil | apply H.then_normal) | (apply H.cond_false; exact rfl))
        refine H.loadN (ls := x.vals) rfl rfl rfl (Rd.ofRow (.there _ (.here _ _ _))) rfl rfl ?_
        refine H.callR rfl rfl rfl hright ?_
        refine H.not (b := _) (c := _) rfl rfl rfl rfl ?_
        repeat (first | ((apply H.assign); (iterate 3 exact rfl)) | (first | apply H.seq | apply H.nil | apply H.then_normal) | (apply H.cond_false; exact rfl) | (first | apply H.skip | apply H.in_normal))
        refine H.drawQ (by kernel_rfl) (by decide +kernel) (by repeat (first | exact blind_fn | refine blind_seq ?_ | refine blind_block ?_ | refine blind_loop ?_)) ?_
        repeat (first | ((first | apply HQ.move | apply HQ.nilCheck); (iterate 3 exact rfl)) | (apply HQ.fieldAddr; (iterate 3 exact rfl); exact inferInstance; exact rfl) | (apply HQ.load1; (iterate 3 exact rfl); apply Rd1.ofRow; (repeat (first | exact .here _ _ _ | apply At.there)); (iterate 2 exact rfl)) | ((apply HQ.ar; (iterate 4 exact rfl)); (with_reducible apply wr_i64; omega); exact rfl))
        refine HQ.index_array (i := o) rfl rfl rfl hoz ho11 rfl ?_
        refine HQ.load1 rfl rfl rfl (Rd1.at0 (Rd.ofRow (by repeat (first | exact .here _ _ _ | apply At.there))) (by rw [Nat.mul_one, Nat.zero_add]; exact hstr)) rfl ?_
        repeat (first | ((apply HQ.assign); (iterate 3 exact rfl)) | ((apply HQ.done0); exact rfl))
        repeat (first | ((first | apply H.move | apply H.assign | apply H.len_slice); (iterate 3 exact rfl)) | (apply H.fieldAddr; (iterate 3 exact rfl); exact inferInstance; exact rfl) | (apply H.load1; (iterate 3 exact rfl); apply Rd1.ofRow; (repeat (first | exact .here _ _ _ | apply At.there)); (iterate 2 exact rfl)) | (first | apply H.seq | apply H.region | apply H.nil | apply H.then_normal) | ((apply H.cmp); (iterate 5 exact rfl)) | ((apply H.conv_int; (iterate 2 exact rfl)); (with_reducible apply wr_u64; omega); exact rfl) | (first | apply H.ret | apply H.then_ret | apply H.block | apply H.in_ret) | (apply H.cond_yes; exact rfl; (assumption)))
        refine H.front (x := ordH l i) (by repeat (first | exact .here _ _ | apply Pull.there)) ?_
        refine H.front (x := fam (strH l i) 11) (by repeat (first | exact .here _ _ | apply Pull.there)) ?_
        refine H.front (x := row lb _ _) (by repeat (first | exact .here _ _ | apply Pull.there)) ?_
        refine H.imp (lore_fold i hi) ?_
        refine H.drop (x := row mb _ _) (by repeat (first | exact .here _ _ | apply Pull.there)) ?_
        refine H.ret1 rfl rfl (fun _ h => h) ⟨?_, rfl, rfl⟩
        rw [hchk, if_pos h3]
      · by_cases h4 : x.m.number = (((strmV l o).length + 1 : Nat) : Int)
        · by_cases h0 : 0 < (strmV l o).length
          · obtain ⟨y, hy⟩ : ∃ y, (strmV l o)[(strmV l o).length - 1]? = some y := ⟨_, List.getElem?_eq_getElem (by omega)⟩
            have hlast : lastD (strm (l.map MV.m) o) = y.m.deps := by
              rw [← strmV_map]
              exact lastD_get (by rw [List.length_map, List.getElem?_map, hy]; rfl)
            rw [hlast] at hchk
            refine Fn.enter Tryz.func23 rfl Tryz.ntmps23 rfl (L := [(0, _), (1, _)]) ⟨rfl, rfl, trivial⟩ fun base => ?_
            repeat ((first | apply H.seq | apply H.region))
            refine H.box (ls := x.vals) rfl rfl rfl rfl fun mb => ?_
            repeat (first | ((first | apply H.move | apply H.assign); (iterate 3 exact rfl)) | (first | apply H.seq | apply H.region | apply H.nil | apply H.then_normal) | ((apply H.ptrNil); (iterate 5 exact rfl)) | (apply H.cond_false; exact rfl) | (apply H.block))
            refine H.loadN (ls := x.vals) rfl rfl rfl (Rd.ofRow (.here _ _ _)) rfl rfl ?_
            refine H.front (x := row lb _ _) (by repeat (first | exact .here _ _ | apply Pull.there)) ?_
            refine H.callR rfl rfl rfl hfits ?_
            refine H.not (b := _) (c := _) rfl rfl rfl rfl ?_
            repeat (first | ((apply H.assign); (iterate 3 exact rfl)) | (first | apply H.seq | apply H.region | apply H.nil | apply H.then_normal) | (apply H.cond_false; exact rfl))
            refine H.loadN (ls := x.vals) rfl rfl rfl (Rd.ofRow (.there _ (.here _ _ _))) rfl rfl ?_
            refine H.callR rfl rfl rfl hright ?_
            refine H.not (b := _) (c := _) rfl rfl rfl rfl ?_
            repeat (first | ((apply H.assign); (iterate 3 exact rfl)) | (first | apply H.seq | apply H.nil | apply H.then_normal) | (apply H.cond_false; exact rfl) | (first | apply H.skip | apply H.in_normal))
            refine H.front (x := fam (strH l i) 11) (by repeat (first | exact .here _ _ | apply Pull.there)) ?_
            refine H.famPull ho11 ?_
            refine H.slc_some (p := i.P o) (n0 := (strmV l o).length) (c := i.C o) (.here _ _ _) h0 fun sb hp => ?_
            have hrd : ∀ {f G}, Rd f (strH l i o :: G) sb (((strmV l o).length - 1) * 121 + 2) (v11 y.m.deps) := fun {f G} => by
              unfold strH
              rw [hp]
              exact slc_deps (.here _ _ _) hy
            rw [hp] at hstr
            generalize hs : (strmV l o).length = s at *
            refine H.front (x := row lb _ _) (by repeat (first | exact .here _ _ | apply Pull.there)) ?_
            refine H.front (x := row mb _ _) (by repeat (first | exact .here _ _ | apply Pull.there)) ?_
            refine H.drawQ (by kernel_rfl) (by decide +kernel) (by repeat (first | exact blind_fn | refine blind_seq ?_ | refine blind_block ?_ | refine blind_loop ?_)) ?_
            repeat (first | ((first | apply HQ.move | apply HQ.nilCheck); (iterate 3 exact rfl)) | (apply HQ.fieldAddr; (iterate 3 exact rfl); exact inferInstance; exact rfl) | (apply HQ.load1; (iterate 3 exact rfl); apply Rd1.ofRow; (repeat (exact .here _ _ _)); (iterate 2 exact rfl)) | ((apply HQ.ar; (iterate 4 exact rfl)); (with_reducible apply wr_i64; omega); exact rfl))
            refine HQ.index_array (i := o) rfl rfl rfl hoz ho11 rfl ?_
            refine HQ.load1 rfl rfl rfl (Rd1.at0 (Rd.ofRow (by repeat (first | exact .here _ _ _ | apply At.there))) (by rw [Nat.mul_one, Nat.zero_add]; exact hstr)) rfl ?_
            repeat (first | ((apply HQ.assign); (iterate 3 exact rfl)) | ((apply HQ.done0); exact rfl))
            repeat (first | ((first | apply H.move | apply H.assign | apply H.len_slice); (iterate 3 exact rfl)) | (apply H.fieldAddr; (iterate 3 exact rfl); exact inferInstance; exact rfl) | (apply H.load1; (iterate 3 exact rfl); apply Rd1.ofRow; (repeat (exact .here _ _ _)); (iterate 2 exact rfl)) | (first | apply H.seq | apply H.region | apply H.nil | apply H.then_normal) | ((apply H.cmp); (iterate 5 exact rfl)) | ((apply H.conv_int; (iterate 2 exact rfl)); (with_reducible apply wr_u64; omega); exact rfl) | (apply H.block) | (apply H.cond_no; exact rfl; (assumption)))
            refine H.front (x := row mb _ _) (by repeat (first | exact .here _ _ | apply Pull.there)) ?_
            refine H.front (x := strH l i o) (by repeat (first | exact .here _ _ | apply Pull.there)) ?_
            refine H.drawB (by kernel_rfl) (by decide +kernel) (by repeat (first | exact blind_fn | refine blind_seq ?_ | refine blind_block ?_ | refine blind_loop ?_)) (S := [_, _]) rfl ?_
            refine HB.quiet [(0, false), (1, false), (2, false), (3, false), (4, false), (5, false), (6, false), (7, false), (8, false), (9, false), (10, false), (11, false), (12, false), (13, false), (14, false), (15, false), (16, false), (17, false)] 3 (by kernel_rfl) ?_
            repeat (first | ((apply HQ.move); (iterate 3 exact rfl)) | (apply HQ.fieldAddr; (iterate 3 exact rfl); exact inferInstance; exact rfl) | (apply HQ.load1; (iterate 3 exact rfl); apply Rd1.ofRow; (repeat (first | exact .here _ _ _ | apply At.there)); (iterate 2 exact rfl)) | ((apply HQ.cmp); (iterate 5 exact rfl)) | ((apply HQ.ar; (iterate 4 exact rfl)); (with_reducible apply wr_u64; omega); exact rfl) | (apply HQ.pickT; (iterate 4 exact rfl)) | (apply HQ.gyes; (iterate 3 exact rfl); (first | assumption | omega)))
            refine HQ.index_slice (i := s - 1) rfl rfl rfl (by omega) (by omega) rfl ?_
            repeat ((apply HQ.fieldAddr; (iterate 3 exact rfl); exact inferInstance; exact rfl))
            refine HQ.loadN (ls := v11 y.m.deps) rfl rfl rfl (by rw [Nat.zero_add]; exact hrd) rfl rfl ?_
            repeat ((apply HQ.fieldAddr; (iterate 3 exact rfl); exact inferInstance; exact rfl))
            refine HQ.loadN (ls := v11 x.m.deps) rfl rfl rfl (msg_deps (m := x.m) (q := x.qp) (qc := x.qc) (.there _ (.here _ _ _))) rfl rfl ?_
            refine HQ.more rfl ?_
            refine HB.ev1 (i := 18) (by kernel_rfl) rfl ?_
            refine H.callR rfl rfl rfl (above_fn f _ _ _) ?_
            cases hab : aboveB y.m.deps x.m.deps with
            | true =>
              repeat ((apply H.nil))
              refine H.on0 rfl ?_
              refine HB.quiet [(19, false), (20, false)] 0 (by kernel_rfl) ?_
              repeat (first | ((apply HQ.assign); (iterate 3 exact rfl)) | (apply HQ.pickT; (iterate 4 exact rfl)))
              refine HQ.more rfl ?_
              refine HB.done (by kernel_rfl) ?_
              repeat (first | ((apply H.assign); (iterate 3 exact rfl)) | (first | apply H.seq | apply H.region | apply H.nil | apply H.then_normal) | (apply H.cond_true; exact rfl) | (first | apply H.ret | apply H.then_ret | apply H.in_ret))
              refine H.front (x := fam (updF (strH l i) o emp) 11) (by repeat (first | exact .here _ _ | apply Pull.there)) ?_
              refine H.front (x := strH l i o) (by repeat (first | exact .here _ _ | apply Pull.there)) ?_
              refine H.famBack ho11 ?_
              refine H.front (x := ordH l i) (by repeat (first | exact .here _ _ | apply Pull.there)) ?_
              refine H.front (x := fam (strH l i) 11) (by repeat (first | exact .here _ _ | apply Pull.there)) ?_
              refine H.front (x := row lb _ _) (by repeat (first | exact .here _ _ | apply Pull.there)) ?_
              refine H.imp (lore_fold i hi) ?_
              refine H.drop (x := row mb _ _) (by repeat (first | exact .here _ _ | apply Pull.there)) ?_
              refine H.ret1 rfl rfl (fun _ h => h) ⟨?_, rfl, rfl⟩
              rw [hchk, if_neg h3, if_pos ⟨h4, h0, hab⟩]
            | false =>
              repeat ((apply H.nil))
              refine H.on0 rfl ?_
              refine HB.quiet [(19, false), (20, false)] 0 (by kernel_rfl) ?_
              repeat (first | ((apply HQ.assign); (iterate 3 exact rfl)) | (apply HQ.pickT; (iterate 4 exact rfl)))
              refine HQ.more rfl ?_
              refine HB.done (by kernel_rfl) ?_
              repeat (first | ((first | apply H.move | apply H.assign); (iterate 3 exact rfl)) | (apply H.fieldAddr; (iterate 3 exact rfl); exact inferInstance; exact rfl) | (apply H.load1; (iterate 3 exact rfl); apply Rd1.ofRow; (repeat (first | exact .here _ _ _ | apply At.there)); (iterate 2 exact rfl)) | (first | apply H.seq | apply H.region | apply H.nil | apply H.then_normal) | ((apply H.cmp); (iterate 5 exact rfl)) | ((apply H.ar; (iterate 4 exact rfl)); (with_reducible apply wr_u64; omega); exact rfl) | (apply H.cond_false; exact rfl) | (apply H.cond_no; exact rfl; (omega)))
              refine H.front (x := fam (updF (strH l i) o emp) 11) (by repeat (first | exact .here _ _ | apply Pull.there)) ?_
              refine H.front (x := strH l i o) (by repeat (first | exact .here _ _ | apply Pull.there)) ?_
              refine H.famBack ho11 ?_
              have hc4 : ¬ (x.m.number = ((s + 1 : Nat) : Int) ∧ 0 < s ∧ aboveB y.m.deps x.m.deps = true) := by rintro ⟨_, _, h⟩; rw [hab] at h; cases h
              refine H.front (x := ordH l i) (by repeat (first | exact .here _ _ | apply Pull.there)) ?_
              refine H.front (x := fam (strH l i) 11) (by repeat (first | exact .here _ _ | apply Pull.there)) ?_
              refine H.front (x := row lb _ _) (by repeat (first | exact .here _ _ | apply Pull.there)) ?_
              refine H.imp (lore_fold i hi) ?_
              refine H.front (x := row mb _ _) (by repeat (first | exact .here _ _ | apply Pull.there)) ?_
              refine H.drawB (by kernel_rfl) (by decide +kernel) (by repeat (first | exact blind_fn | refine blind_seq ?_ | refine blind_block ?_ | refine blind_loop ?_)) (S := [_]) rfl ?_
              refine HB.quiet [(0, false), (1, false), (2, false)] 3 (by kernel_rfl) ?_
              repeat ((apply HQ.fieldAddr; (iterate 3 exact rfl); exact inferInstance; exact rfl))
              refine HQ.loadN (ls := v11 x.m.deps) rfl rfl rfl (msg_deps (m := x.m) (q := x.qp) (qc := x.qc) (.here _ _ _)) rfl rfl ?_
              repeat (((apply HQ.move); (iterate 3 exact rfl)))
              refine HQ.more rfl ?_
              refine HB.ev1 (i := 3) (by kernel_rfl) rfl ?_
              refine H.front (x := loreH _ _ _ _) (by repeat (first | exact .here _ _ | apply Pull.there)) ?_
              refine H.callR rfl rfl rfl (known_fn f _) ?_
              repeat ((apply H.nil))
              refine H.front (x := row mb _ _) (by repeat (first | exact .here _ _ | apply Pull.there)) ?_
              refine H.on0 rfl ?_
              refine HB.ev1 (i := 4) (by kernel_rfl) rfl ?_
              refine H.callR rfl rfl rfl (above_fn f _ _ _) ?_
              repeat ((apply H.nil))
              refine H.on0 rfl ?_
              refine HB.quiet [(5, false)] 0 (by kernel_rfl) ?_
              repeat (((apply HQ.assign); (iterate 3 exact rfl)))
              refine HQ.more rfl ?_
              refine HB.done (by kernel_rfl) ?_
              cases hab : aboveB x.m.deps (knownS (strm (l.map MV.m))) with
              | true =>
                repeat (first | ((apply H.assign); (iterate 3 exact rfl)) | (first | apply H.seq | apply H.region | apply H.nil | apply H.then_normal) | (apply H.cond_true; exact rfl) | (first | apply H.ret | apply H.then_ret | apply H.in_ret))
                refine H.drop (.here _ _) ?_
                refine H.ret1 rfl rfl (fun _ h => h) ⟨?_, rfl, rfl⟩
                rw [hchk, if_neg (by omega), if_neg hc4, if_pos (.inr hab)]
              | false =>
                repeat (first | ((apply H.assign); (iterate 3 exact rfl)) | (first | apply H.seq | apply H.region | apply H.nil | apply H.then_normal) | (apply H.cond_false; exact rfl) | (first | apply H.skip | apply H.ret | apply H.in_normal))
                refine H.drop (.here _ _) ?_
                refine H.ret1 rfl rfl (fun _ h => h) ⟨?_, rfl, rfl⟩
                rw [hchk, if_neg (by omega), if_neg hc4, if_neg (by rintro (h | h); omega; rw [hab] at h; cases h)]
          · have hc4 : ¬ (x.m.number = (((strmV l o).length + 1 : Nat) : Int) ∧ 0 < (strmV l o).length ∧ aboveB (lastD (strm (l.map MV.m) o)) x.m.deps = true) := fun h => h0 h.2.1
            generalize hs : (strmV l o).length = s at *
            refine Fn.enter Tryz.func23 rfl Tryz.ntmps23 rfl (L := [(0, _), (1, _)]) ⟨rfl, rfl, trivial⟩ fun base => ?_
            repeat ((first | apply H.seq | apply H.region))
            refine H.box (ls := x.vals) rfl rfl rfl rfl fun mb => ?_
            repeat (first | ((first | apply H.move | apply H.assign); (iterate 3 exact rfl)) | (first | apply H.seq | apply H.region | apply H.nil | apply H.then_normal) | ((apply H.ptrNil); (iterate 5 exact rfl)) | (apply H.cond_false; exact rfl) | (apply H.block))
            refine H.loadN (ls := x.vals) rfl rfl rfl (Rd.ofRow (.here _ _ _)) rfl rfl ?_
            refine H.front (x := row lb _ _) (by repeat (first | exact .here _ _ | apply Pull.there)) ?_
            refine H.callR rfl rfl rfl hfits ?_
            refine H.not (b := _) (c := _) rfl rfl rfl rfl ?_
            repeat (first | ((apply H.assign); (iterate 3 exact rfl)) | (first | apply H.seq | apply H.region | apply H.nil | apply H.then_normal) | (apply H.cond_false; exact rfl))
            refine H.loadN (ls := x.vals) rfl rfl rfl (Rd.ofRow (.there _ (.here _ _ _))) rfl rfl ?_
            refine H.callR rfl rfl rfl hright ?_
            refine H.not (b := _) (c := _) rfl rfl rfl rfl ?_
            repeat (first | ((apply H.assign); (iterate 3 exact rfl)) | (first | apply H.seq | apply H.nil | apply H.then_normal) | (apply H.cond_false; exact rfl) | (first | apply H.skip | apply H.in_normal))
            refine H.drawQ (by kernel_rfl) (by decide +kernel) (by repeat (first | exact blind_fn | refine blind_seq ?_ | refine blind_block ?_ | refine blind_loop ?_)) ?_
            repeat (first | ((first | apply HQ.move | apply HQ.nilCheck); (iterate 3 exact rfl)) | (apply HQ.fieldAddr; (iterate 3 exact rfl); exact inferInstance; exact rfl) | (apply HQ.load1; (iterate 3 exact rfl); apply Rd1.ofRow; (repeat (first | exact .here _ _ _ | apply At.there)); (iterate 2 exact rfl)) | ((apply HQ.ar; (iterate 4 exact rfl)); (with_reducible apply wr_i64; omega); exact rfl))
            refine HQ.index_array (i := o) rfl rfl rfl hoz ho11 rfl ?_
            refine HQ.load1 rfl rfl rfl (Rd1.at0 (Rd.ofRow (by repeat (first | exact .here _ _ _ | apply At.there))) (by rw [Nat.mul_one, Nat.zero_add]; exact hstr)) rfl ?_
            repeat (first | ((apply HQ.assign); (iterate 3 exact rfl)) | ((apply HQ.done0); exact rfl))
            repeat (first | ((first | apply H.move | apply H.assign | apply H.len_slice); (iterate 3 exact rfl)) | (apply H.fieldAddr; (iterate 3 exact rfl); exact inferInstance; exact rfl) | (apply H.load1; (iterate 3 exact rfl); apply Rd1.ofRow; (repeat (first | exact .here _ _ _ | apply At.there)); (iterate 2 exact rfl)) | (first | apply H.seq | apply H.region | apply H.nil | apply H.then_normal) | ((apply H.cmp); (iterate 5 exact rfl)) | ((apply H.conv_int; (iterate 2 exact rfl)); (with_reducible apply wr_u64; omega); exact rfl) | (apply H.block) | (apply H.cond_no; exact rfl; (assumption)))
            refine H.drawB (by kernel_rfl) (by decide +kernel) (by repeat (first | exact blind_fn | refine blind_seq ?_ | refine blind_block ?_ | refine blind_loop ?_)) (S := [_, _]) rfl ?_
            refine HB.quiet [(0, false), (1, false), (2, false), (3, false), (4, false), (5, false), (6, false), (7, false), (8, false), (9, false), (10, false), (11, false), (12, false), (13, false), (14, false), (15, false), (16, false), (17, false)] 3 (by kernel_rfl) ?_
            repeat (first | ((apply HQ.move); (iterate 3 exact rfl)) | (apply HQ.fieldAddr; (iterate 3 exact rfl); exact inferInstance; exact rfl) | (apply HQ.load1; (iterate 3 exact rfl); apply Rd1.ofRow; (repeat (first | exact .here _ _ _ | apply At.there)); (iterate 2 exact rfl)) | ((apply HQ.cmp); (iterate 5 exact rfl)) | ((apply HQ.ar; (iterate 4 exact rfl)); (with_reducible apply wr_u64; omega); exact rfl) | (apply HQ.pass; (iterate 2 exact rfl)) | (apply HQ.pickT; (iterate 4 exact rfl)) | (apply HQ.gyes; (iterate 3 exact rfl); (assumption)) | (apply HQ.gno; (iterate 3 exact rfl); (omega)))
            refine HQ.more rfl ?_
            refine HB.ev1 (i := 18) (by kernel_rfl) rfl ?_
            repeat (first | (apply H.nil) | (apply H.pass; (iterate 2 exact rfl)))
            refine H.on0 rfl ?_
            refine HB.quiet [(19, false), (20, false)] 0 (by kernel_rfl) ?_
            repeat (first | ((apply HQ.assign); (iterate 3 exact rfl)) | ((apply HQ.pickF); (iterate 4 exact rfl)))
            refine HQ.more rfl ?_
            refine HB.done (by kernel_rfl) ?_
            repeat (first | ((first | apply H.move | apply H.assign); (iterate 3 exact rfl)) | (apply H.fieldAddr; (iterate 3 exact rfl); exact inferInstance; exact rfl) | (apply H.load1; (iterate 3 exact rfl); apply Rd1.ofRow; (repeat (first | exact .here _ _ _ | apply At.there)); (iterate 2 exact rfl)) | (first | apply H.seq | apply H.region | apply H.nil | apply H.then_normal) | ((apply H.cmp); (iterate 5 exact rfl)) | ((apply H.ar; (iterate 4 exact rfl)); (with_reducible apply wr_u64; omega); exact rfl) | (apply H.cond_false; exact rfl) | (apply H.cond_no; exact rfl; (omega)))
            refine H.front (x := ordH l i) (by repeat (first | exact .here _ _ | apply Pull.there)) ?_
            refine H.front (x := fam (strH l i) 11) (by repeat (first | exact .here _ _ | apply Pull.there)) ?_
            refine H.front (x := row lb _ _) (by repeat (first | exact .here _ _ | apply Pull.there)) ?_
            refine H.imp (lore_fold i hi) ?_
            refine H.front (x := row mb _ _) (by repeat (first | exact .here _ _ | apply Pull.there)) ?_
            refine H.drawB (by kernel_rfl) (by decide +kernel) (by repeat (first | exact blind_fn | refine blind_seq ?_ | refine blind_block ?_ | refine blind_loop ?_)) (S := [_]) rfl ?_
            refine HB.quiet [(0, false), (1, false), (2, false)] 3 (by kernel_rfl) ?_
            repeat ((apply HQ.fieldAddr; (iterate 3 exact rfl); exact inferInstance; exact rfl))
            refine HQ.loadN (ls := v11 x.m.deps) rfl rfl rfl (msg_deps (m := x.m) (q := x.qp) (qc := x.qc) (.here _ _ _)) rfl rfl ?_
            repeat (((apply HQ.move); (iterate 3 exact rfl)))
            refine HQ.more rfl ?_
            refine HB.ev1 (i := 3) (by kernel_rfl) rfl ?_
            refine H.front (x := loreH _ _ _ _) (by repeat (first | exact .here _ _ | apply Pull.there)) ?_
            refine H.callR rfl rfl rfl (known_fn f _) ?_
            repeat ((apply H.nil))
            refine H.front (x := row mb _ _) (by repeat (first | exact .here _ _ | apply Pull.there)) ?_
            refine H.on0 rfl ?_
            refine HB.ev1 (i := 4) (by kernel_rfl) rfl ?_
            refine H.callR rfl rfl rfl (above_fn f _ _ _) ?_
            repeat ((apply H.nil))
            refine H.on0 rfl ?_
            refine HB.quiet [(5, false)] 0 (by kernel_rfl) ?_
            repeat (((apply HQ.assign); (iterate 3 exact rfl)))
            refine HQ.more rfl ?_
            refine HB.done (by kernel_rfl) ?_
            cases hab : aboveB x.m.deps (knownS (strm (l.map MV.m))) with
            | true =>
              repeat (first | ((apply H.assign); (iterate 3 exact rfl)) | (first | apply H.seq | apply H.region | apply H.nil | apply H.then_normal) | (apply H.cond_true; exact rfl) | (first | apply H.ret | apply H.then_ret | apply H.in_ret))
              refine H.drop (.here _ _) ?_
              refine H.ret1 rfl rfl (fun _ h => h) ⟨?_, rfl, rfl⟩
              rw [hchk, if_neg (by omega), if_neg hc4, if_pos (.inr hab)]
            | false =>
              repeat (first | ((apply H.assign); (iterate 3 exact rfl)) | (first | apply H.seq | apply H.region | apply H.nil | apply H.then_normal) | (apply H.cond_false; exact rfl) | (first | apply H.skip | apply H.ret | apply H.in_normal))
              refine H.drop (.here _ _) ?_
              refine H.ret1 rfl rfl (fun _ h => h) ⟨?_, rfl, rfl⟩
              rw [hchk, if_neg (by omega), if_neg hc4, if_neg (by rintro (h | h); omega; rw [hab] at h; cases h)]
        · have hc4 : ¬ (x.m.number = (((strmV l o).length + 1 : Nat) : Int) ∧ 0 < (strmV l o).length ∧ aboveB (lastD (strm (l.map MV.m) o)) x.m.deps = true) := fun h => h4 h.1
          generalize hs : (strmV l o).length = s at *
          refine Fn.enter Tryz.func23 rfl Tryz.ntmps23 rfl (L := [(0, _), (1, _)]) ⟨rfl, rfl, trivial⟩ fun base => ?_
          repeat ((first | apply H.seq | apply H.region))
          refine H.box (ls := x.vals) rfl rfl rfl rfl fun mb => ?_
          repeat (first | ((first | apply H.move | apply H.assign); (iterate 3 exact rfl)) | (first | apply H.seq | apply H.region | apply H.nil | apply H.then_normal) | ((apply H.ptrNil); (iterate 5 exact rfl)) | (apply H.cond_false; exact rfl) | (apply H.block))
          refine H.loadN (ls := x.vals) rfl rfl rfl (Rd.ofRow (.here _ _ _)) rfl rfl ?_
          refine H.front (x := row lb _ _) (by repeat (first | exact .here _ _ | apply Pull.there)) ?_
          refine H.callR rfl rfl rfl hfits ?_
          refine H.not (b := _) (c := _) rfl rfl rfl rfl ?_
          repeat (first | ((apply H.assign); (iterate 3 exact rfl)) | (first | apply H.seq | apply H.region | apply H.nil | apply H.then_normal) | (apply H.cond_false; exact rfl))
          refine H.loadN (ls := x.vals) rfl rfl rfl (Rd.ofRow (.there _ (.here _ _ _))) rfl rfl ?_
          refine H.callR rfl rfl rfl hright ?_
          refine H.not (b := _) (c := _) rfl rfl rfl rfl ?_
          repeat (first | ((apply H.assign); (iterate 3 exact rfl)) | (first | apply H.seq | apply H.nil | apply H.then_normal) | (apply H.cond_false; exact rfl) | (first | apply H.skip | apply H.in_normal))
          refine H.drawQ (by kernel_rfl) (by decide +kernel) (by repeat (first | exact blind_fn | refine blind_seq ?_ | refine blind_block ?_ | refine blind_loop ?_)) ?_
          repeat (first | ((first | apply HQ.move | apply HQ.nilCheck); (iterate 3 exact rfl)) | (apply HQ.fieldAddr; (iterate 3 exact rfl); exact inferInstance; exact rfl) | (apply HQ.load1; (iterate 3 exact rfl); apply Rd1.ofRow; (repeat (first | exact .here _ _ _ | apply At.there)); (iterate 2 exact rfl)) | ((apply HQ.ar; (iterate 4 exact rfl)); (with_reducible apply wr_i64; omega); exact rfl))
          refine HQ.index_array (i := o) rfl rfl rfl hoz ho11 rfl ?_
          refine HQ.load1 rfl rfl rfl (Rd1.at0 (Rd.ofRow (by repeat (first | exact .here _ _ _ | apply At.there))) (by rw [Nat.mul_one, Nat.zero_add]; exact hstr)) rfl ?_
          repeat (first | ((apply HQ.assign); (iterate 3 exact rfl)) | ((apply HQ.done0); exact rfl))
          repeat (first | ((first | apply H.move | apply H.assign | apply H.len_slice); (iterate 3 exact rfl)) | (apply H.fieldAddr; (iterate 3 exact rfl); exact inferInstance; exact rfl) | (apply H.load1; (iterate 3 exact rfl); apply Rd1.ofRow; (repeat (first | exact .here _ _ _ | apply At.there)); (iterate 2 exact rfl)) | (first | apply H.seq | apply H.region | apply H.nil | apply H.then_normal) | ((apply H.cmp); (iterate 5 exact rfl)) | ((apply H.conv_int; (iterate 2 exact rfl)); (with_reducible apply wr_u64; omega); exact rfl) | (apply H.block) | (apply H.cond_no; exact rfl; (assumption)))
          refine H.drawB (by kernel_rfl) (by decide +kernel) (by repeat (first | exact blind_fn | refine blind_seq ?_ | refine blind_block ?_ | refine blind_loop ?_)) (S := [_, _]) rfl ?_
          refine HB.quiet [(0, false), (1, false), (2, false), (3, false), (4, false), (5, false), (6, false), (7, false), (8, false), (9, false), (10, false), (11, false), (12, false), (13, false), (14, false), (15, false), (16, false), (17, false)] 3 (by kernel_rfl) ?_
          repeat (first | ((apply HQ.move); (iterate 3 exact rfl)) | (apply HQ.fieldAddr; (iterate 3 exact rfl); exact inferInstance; exact rfl) | (apply HQ.load1; (iterate 3 exact rfl); apply Rd1.ofRow; (repeat (first | exact .here _ _ _ | apply At.there)); (iterate 2 exact rfl)) | ((apply HQ.cmp); (iterate 5 exact rfl)) | ((apply HQ.ar; (iterate 4 exact rfl)); (with_reducible apply wr_u64; omega); exact rfl) | (apply HQ.pass; (iterate 2 exact rfl)) | ((apply HQ.pickF); (iterate 4 exact rfl)) | (apply HQ.gno; (iterate 3 exact rfl); (assumption)))
          refine HQ.more rfl ?_
          refine HB.ev1 (i := 18) (by kernel_rfl) rfl ?_
          repeat (first | (apply H.nil) | (apply H.pass; (iterate 2 exact rfl)))
          refine H.on0 rfl ?_
          refine HB.quiet [(19, false), (20, false)] 0 (by kernel_rfl) ?_
          repeat (first | ((apply HQ.assign); (iterate 3 exact rfl)) | ((apply HQ.pickF); (iterate 4 exact rfl)))
          refine HQ.more rfl ?_
          refine HB.done (by kernel_rfl) ?_
          repeat (first | ((first | apply H.move | apply H.assign); (iterate 3 exact rfl)) | (apply H.fieldAddr; (iterate 3 exact rfl); exact inferInstance; exact rfl) | (apply H.load1; (iterate 3 exact rfl); apply Rd1.ofRow; (repeat (first | exact .here _ _ _ | apply At.there)); (iterate 2 exact rfl)) | (first | apply H.seq | apply H.region | apply H.nil | apply H.then_normal) | ((apply H.cmp); (iterate 5 exact rfl)) | ((apply H.ar; (iterate 4 exact rfl)); (with_reducible apply wr_u64; omega); exact rfl) | (apply H.cond_false; exact rfl) | (first | apply H.skip | apply H.ret | apply H.then_ret | apply H.in_ret) | (apply H.cond_yes; exact rfl; (omega)))
          refine H.front (x := ordH l i) (by repeat (first | exact .here _ _ | apply Pull.there)) ?_
          refine H.front (x := fam (strH l i) 11) (by repeat (first | exact .here _ _ | apply Pull.there)) ?_
          refine H.front (x := row lb _ _) (by repeat (first | exact .here _ _ | apply Pull.there)) ?_
          refine H.imp (lore_fold i hi) ?_
          refine H.drop (x := row mb _ _) (by repeat (first | exact .here _ _ | apply Pull.there)) ?_
          refine H.ret1 rfl rfl (fun _ h => h) ⟨?_, rfl, rfl⟩
          rw [hchk, if_neg (by omega), if_neg hc4, if_pos (.inl (by omega))]
end
end Go.Proofs.YtoigpgdmignaoaaGreatDoor

/- Layer 12: a message in memory of its own; a message is taken. Condition: the table of the standard stands in the fragment. -/
namespace Go.Proofs.YtoigpgdmignaoaaGreatDoor
open Go
theorem ListAt.none_nil {α : Type} {f : Frag} {sz : Nat} {vals : α → List Value} {p : Option Addr} {xs : List α} (h : ListAt f p sz vals xs) (hp : p = none) : xs = [] := by
  cases xs with
  | nil => rfl
  | cons x r =>
    obtain ⟨b, off, cs, T, fr, h1, _⟩ := h 0 x rfl
    rw [hp] at h1; cases h1
theorem MVs_one (l : List MV) : ∀ v ∈ l.flatMap MV.vals, one v = true := by
  intro v hv
  simp only [List.mem_flatMap] at hv
  obtain ⟨x, _, hx⟩ := hv
  exact allOne_mem (show allOne x.vals = true from rfl) v hx
def loreC (n : Nat) (g : Nat → Value) (s : Value) : List Value := [.int .i64 (n : Int)] ++ c11 g ++ [s]
theorem loreC_last (n : Nat) (g : Nat → Value) (s v : Value) : SetV (loreC n g s) 12 v (loreC n g v) := by
  have e : loreC n g v = (loreC n g s).set 12 v := rfl
  rw [e]
  exact SetV.mk v (show 12 < 13 by decide)
theorem loreC_mid (n : Nat) (g : Nat → Value) (s v : Value) {o : Nat} (h : o < 11) : SetV (loreC n g s) (1 + o) v (loreC n (updF g o v) s) :=
  SetV.mid' (c11_set g v h) [.int .i64 (n : Int)] [s]
theorem loreC_str (n : Nat) (g : Nat → Value) (s : Value) {o : Nat} (h : o < 11) : (loreC n g s)[1 + o]? = some (g o) := by
  unfold loreC
  rw [List.append_assoc, List.getElem?_append_right (by show 1 ≤ 1 + o; omega), show 1 + o - [Value.int .i64 (n : Int)].length = o by show 1 + o - 1 = o; omega, List.getElem?_append_left (by show o < 11; exact h), c11_get _ h]
theorem c11_congr {g g' : Nat → Value} (h : ∀ k, k < 11 → g k = g' k) : c11 g = c11 g' := by
  unfold c11
  rw [h 0 (by decide), h 1 (by decide), h 2 (by decide), h 3 (by decide), h 4 (by decide), h 5 (by decide), h 6 (by decide), h 7 (by decide), h 8 (by decide), h 9 (by decide), h 10 (by decide)]
theorem lore_after {F : List HP} {lb n o : Nat} {l : List MV} {i : LP} {f' : Frag} {x : MV} {p2 po2 : Option Addr} {c2 co2 : Nat} (hoo : orgI x.m = o) (h : loreφ f' n (l ++ [x])) :
    ∀ y, stars (row lb 120 (loreC n (updF (fun k => .slice (i.P k) (strmV l k).length (i.C k)) o (.slice p2 ((strmV l o).length + 1) c2)) (.slice po2 (l.length + 1) co2)) ::
      fam (updF (strH l i) o (slc p2 ((strmV l o).length + 1) c2 47 121 ((strmV l o).flatMap MV.vals ++ x.vals))) 11 ::
      slc po2 (l.length + 1) co2 123 2 ((placesOf (l.map MV.m)).flatMap placeV ++ placeV (o, (strmV l o).length)) :: F) y → stars (loreH f' lb n (l ++ [x]) :: F) y := by
  have hcnt : cnt (l.map MV.m) o = (strmV l o).length := (strmV_len l o).symm
  have e1 : loreC n (updF (fun k => .slice (i.P k) (strmV l k).length (i.C k)) o (.slice p2 ((strmV l o).length + 1) c2)) (.slice po2 (l.length + 1) co2) = loreCells n (l ++ [x]) ⟨updF i.P o p2, updF i.C o c2, po2, co2⟩ := by
    unfold loreC loreCells
    rw [c11_congr (g' := fun k => .slice ((updF i.P o p2) k) (strmV (l ++ [x]) k).length ((updF i.C o c2) k)) fun k _ => ?_, List.length_append]
    · rfl
    · rw [strmV_snoc, hoo]
      by_cases e : k = o
      · subst e; rw [updF_same, updF_same, updF_same, if_pos rfl, List.length_append]; rfl
      · rw [updF_ne _ _ e, updF_ne _ _ e, updF_ne _ _ e, if_neg e]
  have e2 : fam (updF (strH l i) o (slc p2 ((strmV l o).length + 1) c2 47 121 ((strmV l o).flatMap MV.vals ++ x.vals))) 11 = fam (strH (l ++ [x]) ⟨updF i.P o p2, updF i.C o c2, po2, co2⟩) 11 := by
    unfold fam
    rw [rngH_congr 11 fun k _ => ?_]
    unfold strH
    rw [strmV_snoc, hoo]
    by_cases e : k = o
    · subst e
      show updF _ k _ k = slc (updF i.P k p2 k) _ (updF i.C k c2 k) _ _ _
      rw [updF_same, updF_same, updF_same, if_pos rfl, List.length_append, List.flatMap_append]
      show _ = slc p2 _ c2 _ _ (_ ++ (x.vals ++ []))
      rw [List.append_nil]; rfl
    · show updF _ o _ k = slc (updF i.P o p2 k) _ (updF i.C o c2 k) _ _ _
      rw [updF_ne _ _ e, updF_ne _ _ e, updF_ne _ _ e, if_neg e]
  have e3 : slc po2 (l.length + 1) co2 123 2 ((placesOf (l.map MV.m)).flatMap placeV ++ placeV (o, (strmV l o).length)) = ordH (l ++ [x]) ⟨updF i.P o p2, updF i.C o c2, po2, co2⟩ := by
    unfold ordH
    have hpl := placesOf_snoc (l.map MV.m) x.m
    rw [hoo, hcnt] at hpl
    rw [List.map_append, show [x].map MV.m = [x.m] from rfl, hpl, List.flatMap_append, List.length_append]
    rfl
  rw [e1, e2, e3]
  exact lore_fold _ h
theorem loreφ_snoc {f f' : Frag} (hle : Le f f') {n : Nat} {l : List MV} {x : MV} (h : loreφ f n l) (hl : l.length < 100000) (hc : chk n (strm (l.map MV.m)) x.m = 0) (hx : x.Good f') : loreφ f' n (l ++ [x]) := by
  refine ⟨fun y hy => ?_, ?_, ?_, h.2.2.2⟩
  · rcases List.mem_append.1 hy with hy | hy
    · exact (h.1 y hy).mono hle
    · rw [List.mem_singleton] at hy; subst hy; exact hx
  · rw [List.length_append]; show l.length + 1 ≤ _; omega
  · rw [List.map_append]; exact h.2.2.1.snoc hc
def msgZ : Msg := ⟨0, 0, fun _ => 0, Bod.zero 0, noTag⟩
theorem qs_qat0 {g : Frag} {p : Option Addr} {c : Nat} {q : List (Int × Int)} (h : qs p c q g) : QAt g p q := slc_listAt (vals := pairV) (fun _ => rfl) h
section
variable (f : Frag) (F : List HP)
theorem cloneQ_fn {p : Option Addr} {c : Nat} {l : List (Int × Int)} (h : QAt f p l) (hl : l.length ≤ 1000000) :
    Fn Tryz.prog 70 [.slice p l.length c] f F (fun v f' A' => ∃ p c, v = .slice p l.length c ∧ f' = f ∧ A' = qs p c l :: F) := by
  have h' : ListAt f p 2 pairV l := h
  have hs := ListAt.src (P := Tryz.prog) (A := F) (c := c) (sz := 2) (vals := pairV) (fun _ => rfl) (by decide) h'
  cases p with
  | none =>
    have := h'.none_nil rfl
    subst this
    refine Fn.enter Tryz.func70 rfl Tryz.ntmps70 rfl (L := [(0, _)]) ⟨rfl, trivial⟩ fun base => ?_
    repeat (first | ((first | apply H.move | apply H.assign); (iterate 3 exact rfl)) | (first | apply H.seq | apply H.region | apply H.nil | apply H.then_normal) | ((apply H.sliceNil); (iterate 5 exact rfl)) | (apply H.cond_true; exact rfl) | (first | apply H.ret | apply H.then_ret))
    refine H.slc0 61 2 ?_
    exact H.ret1 rfl rfl (fun _ h => h) ⟨none, 0, rfl, rfl, rfl⟩
  | some a =>
    refine Fn.enter Tryz.func70 rfl Tryz.ntmps70 rfl (L := [(0, _)]) ⟨rfl, trivial⟩ fun base => ?_
    repeat (first | ((first | apply H.move | apply H.assign); (iterate 3 exact rfl)) | (first | apply H.seq | apply H.region | apply H.nil | apply H.then_normal) | ((apply H.sliceNil); (iterate 5 exact rfl)) | (apply H.cond_false; exact rfl) | (apply H.skip))
    refine H.buildSlice rfl rfl rfl rfl (by decide) (by decide) rfl rfl fun eb => ?_
    refine H.asSlc (k := 0) (sz := 2) rfl (by decide) ?_
    repeat (((apply H.move); (iterate 3 exact rfl)))
    refine H.append (xs := []) rfl rfl rfl rfl rfl (fun p' c' => .here _ _ _) hs.cons (pairsV_one l) rfl (by omega) (by omega) fun p' c' => ?_
    rw [Nat.zero_add]
    repeat (first | ((apply H.assign); (iterate 3 exact rfl)) | (first | apply H.nil | apply H.then_normal) | (apply H.ret))
    exact H.ret1 rfl rfl (fun _ h => h) ⟨p', c', rfl, rfl, rfl⟩
theorem lown_fn {x : MV} (hx : x.Good f) : Fn Tryz.prog 56 [.agg x.vals.toArray] f F (fun v f' A' => ∃ p c, v = .agg (x.m.vals p c).toArray ∧ f' = f ∧ A' = qs p c x.m.body.q :: F) := by
  refine Fn.enter Tryz.func56 rfl Tryz.ntmps56 rfl (L := [(0, _)]) ⟨rfl, trivial⟩ fun base => ?_
  repeat ((first | apply H.seq | apply H.region))
  refine H.box (ls := x.vals) rfl rfl rfl rfl fun mb => ?_
  refine H.alloc (ls := msgZ.vals none 0) rfl rfl rfl fun ob => ?_
  repeat (first | (apply H.fieldAddr; (iterate 3 exact rfl); exact inferInstance; exact rfl) | (apply H.load1; (iterate 3 exact rfl); apply Rd1.ofRow; (repeat (first | exact .here _ _ _ | apply At.there)); (iterate 2 exact rfl)) | (first | apply H.seq | apply H.region | apply H.nil | apply H.then_normal))
  refine H.callE2 rfl rfl rfl (cloneQ_fn f _ hx.1 hx.2.1) fun qp qc => ?_
  repeat (first | (apply H.fieldAddr; (iterate 3 exact rfl); exact inferInstance; exact rfl) | (first | apply H.seq | apply H.region | apply H.nil | apply H.then_normal) | (apply H.store1; (iterate 4 exact rfl); (repeat (first | exact .here _ _ _ | apply At.there)); (repeat (first | exact .here _ _ _ | apply SetV.there))))
  refine H.loadN (ls := x.m.vals qp qc) rfl rfl rfl (Rd.ofRow (by repeat (first | exact .here _ _ _ | apply At.there))) rfl rfl ?_
  refine H.storeN (ls := msgZ.vals none 0) (vs := x.m.vals qp qc) (ls' := x.m.vals qp qc) rfl rfl rfl (allOne_mem rfl) rfl rfl (Nat.le_refl 121) (by repeat (first | exact .here _ _ _ | apply At.there)) ?_
  repeat (first | (first | apply H.nil | apply H.then_normal) | (apply H.ret))
  refine H.drop (x := row mb _ _) (by repeat (first | exact .here _ _ | apply Pull.there)) ?_
  refine H.front (x := row ob _ _) (by repeat (first | exact .here _ _ | apply Pull.there)) ?_
  exact H.retD rfl rfl rfl (Rd.ofRow (.here _ _ _)) rfl (fun _ s => s.drop (.here _ _)) ⟨qp, qc, rfl, rfl, rfl⟩
def AddP (f : Frag) (F : List HP) (lb n : Nat) (l : List MV) (m : Msg) : Value → Frag → List HP → Prop := fun v f' A' =>
  ∃ (g : Frag) (qp : Option Addr) (qc : Nat), v = .int .i64 (chk n (strm (l.map MV.m)) m) ∧ Dj f g ∧ f' = un f g ∧ A' = loreH f' lb n (if chk n (strm (l.map MV.m)) m = 0 then l ++ [⟨m, qp, qc⟩] else l) :: F
def AddQ (f : Frag) (F : List HP) (fl : Frag) (lb n : Nat) (l : List MV) (m : Msg) : Value → Frag → List HP → Prop := fun v f' A' =>
  ∃ (g : Frag) (qp : Option Addr) (qc : Nat), v = .int .i64 (chk n (strm (l.map MV.m)) m) ∧ Dj f g ∧ f' = un f g ∧ A' = loreH (un fl g) lb n (if chk n (strm (l.map MV.m)) m = 0 then l ++ [⟨m, qp, qc⟩] else l) :: F
theorem Dj.le {f g h : Frag} (h1 : Le f g) (h2 : Dj g h) : Dj f h := fun k => by
  rcases h2 k with e | e
  · cases hf : f k with
    | none => exact .inl rfl
    | some o => rw [h1 k o hf] at e; cases e
  · exact .inr e
set_option maxHeartbeats 3200000 in
theorem laddQ_fn (htab : TabAt f) {fl : Frag} (hfl : Le fl f) {lb n : Nat} {l : List MV} {x : MV} (hx : x.Good f) (hlen : l.length < 100000) :
    Fn Tryz.prog 19 [.pointer (some ⟨lb, 0, none⟩), .agg x.vals.toArray] f (loreH fl lb n l :: F) (AddQ f F fl lb n l x.m) := by
  by_cases hc : chk n (strm (l.map MV.m)) x.m = 0
  · obtain ⟨z1, z2, z3, _, _⟩ := chk_zero hc
    refine Fn.unpack fun i0 hi0 => ?_
    refine Fn.imp (lore_fold i0 hi0) ?_
    have hn := hi0.2.2.2
    obtain ⟨o, hoo, hoz, hon, ho11, ho1, ho2⟩ := fits_at z1 hn
    rw [hoo, strm_lenV] at z3
    have hsub : IntKind.i64.wrap (x.m.origin - 1) = ((o : Nat) : Int) := by rw [hoz]; exact wr_i64 (by omega)
    have hsl := strmV_le l o
    have hcnt : cnt (l.map MV.m) o = (strmV l o).length := strm_lenV l o
    refine Fn.enter Tryz.func19 rfl Tryz.ntmps19 rfl (L := [(0, _), (1, _)]) ⟨rfl, rfl, trivial⟩ fun base => ?_
    repeat ((first | apply H.seq | apply H.region))
    refine H.box (ls := x.vals) rfl rfl rfl rfl fun mb => ?_
    repeat (first | ((first | apply H.move | apply H.assign); (iterate 3 exact rfl)) | (first | apply H.seq | apply H.region | apply H.nil | apply H.then_normal))
    refine H.loadN (ls := x.vals) rfl rfl rfl (Rd.ofRow (.here _ _ _)) rfl rfl ?_
    refine H.front (x := loreH _ _ _ _) (by repeat (first | exact .here _ _ | apply Pull.there)) ?_
    refine H.callR rfl rfl rfl (lcheck_fn f _ htab hx) ?_
    repeat (first | ((first | apply H.move | apply H.assign); (iterate 3 exact rfl)) | (first | apply H.seq | apply H.region | apply H.nil | apply H.then_normal) | ((apply H.cmp); (iterate 5 exact rfl)) | (apply H.skip) | (apply H.cond_no; exact rfl; (omega)))
    rw [hc]
    skip
    refine H.loreOpen fun i hi => ?_
    unfold ordH
    have hstr := loreCells_str n l i ho11
    refine H.front (x := row mb _ _) (by repeat (first | exact .here _ _ | apply Pull.there)) ?_
    refine H.drawQ (by kernel_rfl) (by decide +kernel) (by repeat (first | exact blind_fn | refine blind_seq ?_ | refine blind_block ?_ | refine blind_loop ?_)) ?_
    repeat (first | ((first | apply HQ.move | apply HQ.nilCheck); (iterate 3 exact rfl)) | (apply HQ.fieldAddr; (iterate 3 exact rfl); exact inferInstance; exact rfl) | (apply HQ.load1; (iterate 3 exact rfl); apply Rd1.ofRow; (repeat (exact .here _ _ _)); (iterate 2 exact rfl)) | ((apply HQ.ar; (iterate 4 exact rfl)); (with_reducible apply wr_i64; omega); exact rfl))
    refine HQ.index_array (i := o) rfl rfl rfl hoz ho11 rfl ?_
    repeat (first | ((apply HQ.assign); (iterate 3 exact rfl)) | ((apply HQ.done0); exact rfl))
    repeat ((first | apply H.seq | apply H.then_normal))
    refine H.drawC [0, 1, 2, 3, 4, 5, 6, 7, 8, 9, 10, 11, 12, 13, 14] (by kernel_rfl) (by decide +kernel) (by repeat (first | exact blind_fn | refine blind_seq ?_ | refine blind_block ?_ | refine blind_loop ?_)) (S := [_, _]) rfl ?_
    refine HB.quiet [(0, false), (1, false), (2, false), (3, false), (4, false), (5, false), (6, false), (7, false), (8, false), (9, false), (10, false), (11, false), (12, false)] 5 (by kernel_rfl) ?_
    repeat (first | (apply HQ.ar; (iterate 4 exact rfl); exact hsub; exact rfl) | (refine HQ.load1 rfl rfl rfl (Rd1.at0 (Rd.ofRow (.there _ (.here _ _ _))) (by rw [Nat.mul_one, Nat.zero_add]; exact hstr)) rfl ?_) | ((first | apply HQ.move | apply HQ.nilCheck | apply HQ.len_slice); (iterate 3 exact rfl)) | (apply HQ.fieldAddr; (iterate 3 exact rfl); exact inferInstance; exact rfl) | (apply HQ.load1; (iterate 3 exact rfl); apply Rd1.ofRow; (repeat (first | exact .here _ _ _ | apply At.there)); (iterate 2 exact rfl)) | ((apply HQ.build); (iterate 5 exact rfl)))
    refine HQ.more rfl ?_
    refine HB.ev1 (i := 13) (by kernel_rfl) rfl ?_
    refine H.buildSlice (out := placeV (o, (strmV l o).length)) rfl rfl rfl rfl (by decide) (by decide) rfl rfl fun eb => ?_
    repeat ((apply H.nil))
    refine H.front (x := row lb _ _) (by repeat (first | exact .here _ _ | apply Pull.there)) ?_
    refine H.front (x := row mb _ _) (by repeat (first | exact .here _ _ | apply Pull.there)) ?_
    refine H.on0 rfl ?_
    refine HB.ev1 (i := 14) (by kernel_rfl) rfl ?_
    have hpll : (placesOf (l.map MV.m)).length = l.length := by unfold placesOf; rw [placesFrom_len, List.length_map]
    refine H.append (xs := (placesOf (l.map MV.m)).flatMap placeV) (m := 1) (news := placeV (o, (strmV l o).length)) rfl rfl rfl rfl rfl (fun p' c' => (by repeat (first | exact .here _ _ _ | apply At.there))) (Src.slice (Rd.ofRow (by repeat (first | exact .here _ _ _ | apply At.there))) rfl) (allOne_mem rfl) rfl (by omega) (by omega) fun po2 co2 => ?_
    repeat ((apply H.nil))
    refine H.drop (x := row eb _ _) (by repeat (first | exact .here _ _ | apply Pull.there)) ?_
    refine H.on0 rfl ?_
    refine HB.next [] (by kernel_rfl) (S' := []) rfl ?_
    refine HB.quiet [(15, false), (16, false)] 1 (by kernel_rfl) ?_
    repeat (first | ((apply HQ.nilCheck); (iterate 3 exact rfl)) | (apply HQ.fieldAddr; (iterate 3 exact rfl); exact inferInstance; exact rfl))
    refine HQ.more rfl ?_
    refine HB.ev1 (i := 17) (by kernel_rfl) rfl ?_
    refine H.store1 (ls := loreC n (fun k => .slice (i.P k) (strmV l k).length (i.C k)) (.slice i.po l.length i.co)) (ls' := loreC n (fun k => .slice (i.P k) (strmV l k).length (i.C k)) (.slice po2 (l.length + 1) co2)) rfl rfl rfl rfl (.there _ (.here _ _ _)) (loreC_last _ _ _ _) ?_
    repeat ((apply H.nil))
    refine H.on0 rfl ?_
    refine HB.done (by kernel_rfl) ?_
    repeat ((first | apply H.seq | apply H.then_normal))
    refine H.drawC [0, 1, 2, 3, 4, 5, 6, 7] (by kernel_rfl) (by decide +kernel) (by repeat (first | exact blind_fn | refine blind_seq ?_ | refine blind_block ?_ | refine blind_loop ?_)) (S := [_, _]) rfl ?_
    refine HB.quiet [(0, false), (1, false), (2, false), (3, false), (4, false)] 5 (by kernel_rfl) ?_
    have hstr2 := loreC_str n (fun k => .slice (i.P k) (strmV l k).length (i.C k)) (.slice po2 (l.length + 1) co2) ho11
    repeat (first | (refine HQ.load1 rfl rfl rfl (Rd1.at0 (Rd.ofRow (.there _ (.here _ _ _))) (by rw [Nat.mul_one, Nat.zero_add]; exact hstr2)) rfl ?_) | (refine HQ.loadN (ls := x.vals) rfl rfl rfl (Rd.ofRow (.here _ _ _)) rfl rfl ?_) | ((first | apply HQ.move | apply HQ.nilCheck); (iterate 3 exact rfl)))
    refine HQ.more rfl ?_
    refine HB.ev1 (i := 5) (by kernel_rfl) rfl ?_
    refine H.callE2 rfl rfl rfl (lown_fn f _ hx) fun qp qc => ?_
    repeat ((apply H.nil))
    refine H.freeze (.here _ _) fun g hg hd => ?_
    refine H.on [] (Le.un f g) rfl ?_
    refine HB.ev1 (i := 6) (by kernel_rfl) rfl ?_
    refine H.buildSlice (out := x.m.vals qp qc) rfl rfl rfl rfl (by decide) (by decide) rfl rfl fun eb => ?_
    repeat ((apply H.nil))
    refine H.front (x := row lb _ _) (by repeat (first | exact .here _ _ | apply Pull.there)) ?_
    refine H.front (x := row mb _ _) (by repeat (first | exact .here _ _ | apply Pull.there)) ?_
    refine H.on0 rfl ?_
    refine HB.ev1 (i := 7) (by kernel_rfl) rfl ?_
    refine H.front (x := fam (strH l i) 11) (by repeat (first | exact .here _ _ | apply Pull.there)) ?_
    refine H.famPull ho11 ?_
    unfold strH
    refine H.append (xs := (strmV l o).flatMap MV.vals) (m := 1) (news := x.m.vals qp qc) rfl rfl rfl rfl rfl (fun p' c' => .here _ _ _) (Src.slice (Rd.ofRow (by repeat (first | exact .here _ _ _ | apply At.there))) rfl) (allOne_mem rfl) rfl (by omega) (by omega) fun p2 c2 => ?_
    repeat ((apply H.nil))
    refine H.drop (x := row eb _ _) (by repeat (first | exact .here _ _ | apply Pull.there)) ?_
    refine H.famPut ho11 ?_
    refine H.front (x := row lb _ _) (by repeat (first | exact .here _ _ | apply Pull.there)) ?_
    refine H.front (x := row mb _ _) (by repeat (first | exact .here _ _ | apply Pull.there)) ?_
    refine H.on0 rfl ?_
    refine HB.next [] (by kernel_rfl) (S' := []) rfl ?_
    refine HB.quiet [(8, false)] 1 (by kernel_rfl) ?_
    repeat (((apply HQ.nilCheck); (iterate 3 exact rfl)))
    refine HQ.more rfl ?_
    refine HB.ev1 (i := 9) (by kernel_rfl) rfl ?_
    refine H.store1 (ls := loreC n (fun k => .slice (i.P k) (strmV l k).length (i.C k)) (.slice po2 (l.length + 1) co2)) (ls' := loreC n (updF (fun k => .slice (i.P k) (strmV l k).length (i.C k)) o (.slice p2 ((strmV l o).length + 1) c2)) (.slice po2 (l.length + 1) co2)) rfl rfl rfl rfl (.there _ (.here _ _ _)) (by rw [Nat.mul_one, Nat.zero_add]; exact loreC_mid _ _ _ _ ho11) ?_
    repeat ((apply H.nil))
    refine H.on0 rfl ?_
    refine HB.done (by kernel_rfl) ?_
    repeat (first | ((apply H.assign); (iterate 3 exact rfl)) | (first | apply H.seq | apply H.region | apply H.nil | apply H.then_normal) | (apply H.ret))
    refine H.drop (x := row mb _ _) (by repeat (first | exact .here _ _ | apply Pull.there)) ?_
    have hxg : (⟨x.m, qp, qc⟩ : MV).Good (un fl g) := ⟨QAt.mono (Le.right (Dj.le hfl hd)) (qs_qat0 hg), hx.2⟩
    refine H.imp (lore_after (x := ⟨x.m, qp, qc⟩) hoo (loreφ_snoc (Le.un fl g) hi hlen hc hxg)) ?_
    refine H.ret1 rfl rfl (fun _ h => h) ⟨g, qp, qc, ?_, hd, rfl, ?_⟩
    · rw [hc]
    · rw [if_pos hc]; rfl
  · have hA : Fn Tryz.prog 19 [.pointer (some ⟨lb, 0, none⟩), .agg x.vals.toArray] f (loreH fl lb n l :: F) (Ret (.int .i64 (chk n (strm (l.map MV.m)) x.m)) f (loreH fl lb n l :: F)) := by
      refine Fn.enter Tryz.func19 rfl Tryz.ntmps19 rfl (L := [(0, _), (1, _)]) ⟨rfl, rfl, trivial⟩ fun base => ?_
      repeat ((first | apply H.seq | apply H.region))
      refine H.box (ls := x.vals) rfl rfl rfl rfl fun mb => ?_
      repeat (first | ((first | apply H.move | apply H.assign); (iterate 3 exact rfl)) | (first | apply H.seq | apply H.region | apply H.nil | apply H.then_normal))
      refine H.loadN (ls := x.vals) rfl rfl rfl (Rd.ofRow (.here _ _ _)) rfl rfl ?_
      refine H.front (x := loreH _ _ _ _) (by repeat (first | exact .here _ _ | apply Pull.there)) ?_
      refine H.callR rfl rfl rfl (lcheck_fn f _ htab hx) ?_
      repeat (first | ((first | apply H.move | apply H.assign); (iterate 3 exact rfl)) | (first | apply H.seq | apply H.region | apply H.nil | apply H.then_normal) | ((apply H.cmp); (iterate 5 exact rfl)) | (first | apply H.ret | apply H.then_ret) | (apply H.cond_yes; exact rfl; (assumption)))
      refine H.drop (x := row mb _ _) (by repeat (first | exact .here _ _ | apply Pull.there)) ?_
      exact H.ret1 rfl rfl (fun _ h => h) ⟨rfl, rfl, rfl⟩
    refine Fn.monoA hA ?_
    rintro v f' A' ⟨rfl, rfl, rfl⟩
    refine ⟨_, ⟨nil0, none, 0, rfl, Dj.nil _, (un_nil _).symm, rfl⟩, ?_⟩
    rw [if_neg hc]
    rintro y ⟨h1, h2, h3, h4, h5, h6⟩
    exact ⟨h1, h2, h3, h4, loreH_mono (Le.un fl nil0) _ h5, h6⟩
theorem ladd_fn (htab : TabAt f) {fl : Frag} (hfl : Le fl f) {lb n : Nat} {l : List MV} {x : MV} (hx : x.Good f) (hlen : l.length < 100000) :
    Fn Tryz.prog 19 [.pointer (some ⟨lb, 0, none⟩), .agg x.vals.toArray] f (loreH fl lb n l :: F) (AddP f F lb n l x.m) := by
  refine Fn.monoA (laddQ_fn f F htab hfl hx hlen) ?_
  rintro v f' A' ⟨g, qp, qc, e1, e2, rfl, rfl⟩
  refine ⟨_, ⟨g, qp, qc, e1, e2, rfl, rfl⟩, ?_⟩
  rintro y ⟨h1, h2, h3, h4, h5, h6⟩
  refine ⟨h1, h2, h3, h4, loreH_mono (fun k o hk => ?_) _ h5, h6⟩
  unfold un at hk ⊢
  cases hfk : fl k with
  | none =>
    rw [hfk] at hk
    rcases e2 k with e | e
    · rw [e]; exact hk
    · have hk2 : g k = some o := hk
      rw [e] at hk2; cases hk2
  | some o' =>
    rw [hfk] at hk
    rw [hfl k o' hfk]
    exact hk
end
end Go.Proofs.YtoigpgdmignaoaaGreatDoor

/- Layer 12: a message is given; those of which a vector does not know. No condition. -/
namespace Go.Proofs.YtoigpgdmignaoaaGreatDoor
open Go
theorem take_cons_drop {α : Type} {l : List α} {k : Nat} {y : α} (h : l[k]? = some y) : l = l.take k ++ y :: l.drop (k + 1) := by
  have h1 := take_snoc h
  have h2 := (List.take_append_drop (k + 1) l).symm
  rw [h1, List.append_assoc] at h2
  exact h2
theorem strmV_at {l : List MV} {k : Nat} {y : MV} (h : l[k]? = some y) : (strmV l (orgI y.m))[cnt ((l.map MV.m).take k) (orgI y.m)]? = some y := by
  have e := take_cons_drop h
  have h1 : strmV l (orgI y.m) = strmV (l.take k) (orgI y.m) ++ y :: strmV (l.drop (k + 1)) (orgI y.m) := by
    rw [e]
    unfold strmV
    rw [List.filter_append, List.filter_cons, if_pos (by simp)]
    rw [← e]
  have h2 : cnt ((l.map MV.m).take k) (orgI y.m) = (strmV (l.take k) (orgI y.m)).length := by rw [strmV_len, List.map_take]
  rw [h1, h2, List.getElem?_append_right (Nat.le_refl _), Nat.sub_self]
  rfl
theorem strmV_mem {l : List MV} {o a : Nat} {y : MV} (h : (strmV l o)[a]? = some y) : y ∈ l := by
  have := List.mem_of_getElem? h
  unfold strmV at this
  exact (List.mem_filter.1 this).1
def getM (l : List Msg) (o z : Int) : Msg × Bool := match findM l o z with
  | some m => (m, true)
  | none => (msgZ, false)
def GetP (f : Frag) (A : List HP) (r : Msg × Bool) : Value → Frag → List HP → Prop := fun v f' A' =>
  ∃ (g : Frag) (y : MV), v = .tuple #[.agg y.vals.toArray, .bool r.2] ∧ y.m = r.1 ∧ y.Good (un f g) ∧ Dj f g ∧ f' = un f g ∧ A' = A
theorem msgZ_good (f : Frag) : (⟨msgZ, none, 0⟩ : MV).Good f := ⟨QAt.nil f none, Nat.zero_le _, ⟨by decide, by decide⟩, ⟨by decide, by decide⟩, reqz_ok⟩
section
variable (f : Frag) (F : List HP)
set_option maxRecDepth 20000 in
set_option maxHeartbeats 1600000 in
theorem lgetA_fn {fl : Frag} (hfl : Le fl f) {lb n : Nat} {l : List MV} {og z : Int} :
    Fn Tryz.prog 28 [.pointer (some ⟨lb, 0, none⟩), .int .i64 og, .int .u64 z] f (loreH fl lb n l :: F) (GetP f (loreH fl lb n l :: F) (getM (l.map MV.m) og z)) := by
  refine Fn.unpack fun i hi => ?_
  have hn := hi.2.2.2
  by_cases h1 : og < 1
  · have hno : getM (l.map MV.m) og z = (msgZ, false) := by unfold getM; rw [hi.2.2.1.find_none (.inl h1)]
    refine Fn.enter Tryz.func28 rfl Tryz.ntmps28 rfl (L := [(0, _), (1, _), (2, _)]) ⟨rfl, rfl, rfl, trivial⟩ fun base => ?_
    repeat ((first | apply H.seq | apply H.region))
    refine H.alloc (ls := msgZ.vals none 0) rfl rfl rfl fun ob => ?_
    repeat (first | ((first | apply H.move | apply H.assign | apply H.nilCheck | apply H.len_slice); (iterate 3 exact rfl)) | (first | apply H.seq | apply H.region | apply H.nil | apply H.then_normal) | ((apply H.cmp); (iterate 5 exact rfl)) | (apply H.pass; (iterate 2 exact rfl)) | (apply H.pickT; (iterate 4 exact rfl)) | ((apply H.pickF); (iterate 4 exact rfl)) | ((apply H.ptrNil); (iterate 5 exact rfl)) | (apply H.cond_true; exact rfl) | (apply H.gyes; (iterate 3 exact rfl); (assumption)))
    refine H.loadN (ls := msgZ.vals none 0) rfl rfl rfl (Rd.ofRow (.here _ _ _)) rfl rfl ?_
    refine H.storeN (ls := msgZ.vals none 0) (vs := msgZ.vals none 0) (ls' := msgZ.vals none 0) rfl rfl rfl (allOne_mem rfl) rfl rfl (Nat.le_refl 121) (.here _ _ _) ?_
    repeat (first | ((apply H.assign); (iterate 3 exact rfl)) | (first | apply H.nil | apply H.then_normal) | (first | apply H.ret | apply H.then_ret))
    rw [hno]
    exact H.retCT rfl rfl rfl rfl (Rd.ofRow (.here _ _ _)) rfl (fun _ s => (s.drop (.here _ _)).imp (lore_fold i hi)) ⟨nil0, ⟨msgZ, none, 0⟩, rfl, rfl, msgZ_good _, Dj.nil _, (un_nil _).symm, rfl⟩
  · by_cases h2 : (n : Int) < og
    · have hno : getM (l.map MV.m) og z = (msgZ, false) := by unfold getM; rw [hi.2.2.1.find_none (.inr (.inl h2))]
      refine Fn.enter Tryz.func28 rfl Tryz.ntmps28 rfl (L := [(0, _), (1, _), (2, _)]) ⟨rfl, rfl, rfl, trivial⟩ fun base => ?_
      repeat ((first | apply H.seq | apply H.region))
      refine H.alloc (ls := msgZ.vals none 0) rfl rfl rfl fun ob => ?_
      repeat (first | ((first | apply H.move | apply H.assign | apply H.nilCheck | apply H.len_slice); (iterate 3 exact rfl)) | (apply H.fieldAddr; (iterate 3 exact rfl); exact inferInstance; exact rfl) | (apply H.load1; (iterate 3 exact rfl); apply Rd1.ofRow; (repeat (first | exact .here _ _ _ | apply At.there)); (iterate 2 exact rfl)) | (first | apply H.seq | apply H.region | apply H.nil | apply H.then_normal) | ((apply H.cmp); (iterate 5 exact rfl)) | (apply H.pass; (iterate 2 exact rfl)) | (apply H.pickT; (iterate 4 exact rfl)) | ((apply H.pickF); (iterate 4 exact rfl)) | ((apply H.ptrNil); (iterate 5 exact rfl)) | (apply H.cond_true; exact rfl) | (apply H.gyes; (iterate 3 exact rfl); (assumption)) | (apply H.gno; (iterate 3 exact rfl); (assumption)))
      refine H.loadN (ls := msgZ.vals none 0) rfl rfl rfl (Rd.ofRow (.here _ _ _)) rfl rfl ?_
      refine H.storeN (ls := msgZ.vals none 0) (vs := msgZ.vals none 0) (ls' := msgZ.vals none 0) rfl rfl rfl (allOne_mem rfl) rfl rfl (Nat.le_refl 121) (.here _ _ _) ?_
      repeat (first | ((apply H.assign); (iterate 3 exact rfl)) | (first | apply H.nil | apply H.then_normal) | (first | apply H.ret | apply H.then_ret))
      rw [hno]
      exact H.retCT rfl rfl rfl rfl (Rd.ofRow (.here _ _ _)) rfl (fun _ s => (s.drop (.here _ _)).imp (lore_fold i hi)) ⟨nil0, ⟨msgZ, none, 0⟩, rfl, rfl, msgZ_good _, Dj.nil _, (un_nil _).symm, rfl⟩
    · by_cases h3 : z < 1
      · have hno : getM (l.map MV.m) og z = (msgZ, false) := by unfold getM; rw [hi.2.2.1.find_none (.inr (.inr h3))]
        refine Fn.enter Tryz.func28 rfl Tryz.ntmps28 rfl (L := [(0, _), (1, _), (2, _)]) ⟨rfl, rfl, rfl, trivial⟩ fun base => ?_
        repeat ((first | apply H.seq | apply H.region))
        refine H.alloc (ls := msgZ.vals none 0) rfl rfl rfl fun ob => ?_
        repeat (first | ((first | apply H.move | apply H.assign | apply H.nilCheck | apply H.len_slice); (iterate 3 exact rfl)) | (apply H.fieldAddr; (iterate 3 exact rfl); exact inferInstance; exact rfl) | (apply H.load1; (iterate 3 exact rfl); apply Rd1.ofRow; (repeat (first | exact .here _ _ _ | apply At.there)); (iterate 2 exact rfl)) | (first | apply H.seq | apply H.region | apply H.nil | apply H.then_normal) | ((apply H.cmp); (iterate 5 exact rfl)) | (apply H.pass; (iterate 2 exact rfl)) | (apply H.pickT; (iterate 4 exact rfl)) | ((apply H.pickF); (iterate 4 exact rfl)) | ((apply H.ptrNil); (iterate 5 exact rfl)) | (apply H.cond_true; exact rfl) | (apply H.gyes; (iterate 3 exact rfl); (assumption)) | (apply H.gno; (iterate 3 exact rfl); (assumption)))
        refine H.loadN (ls := msgZ.vals none 0) rfl rfl rfl (Rd.ofRow (.here _ _ _)) rfl rfl ?_
        refine H.storeN (ls := msgZ.vals none 0) (vs := msgZ.vals none 0) (ls' := msgZ.vals none 0) rfl rfl rfl (allOne_mem rfl) rfl rfl (Nat.le_refl 121) (.here _ _ _) ?_
        repeat (first | ((apply H.assign); (iterate 3 exact rfl)) | (first | apply H.nil | apply H.then_normal) | (first | apply H.ret | apply H.then_ret))
        rw [hno]
        exact H.retCT rfl rfl rfl rfl (Rd.ofRow (.here _ _ _)) rfl (fun _ s => (s.drop (.here _ _)).imp (lore_fold i hi)) ⟨nil0, ⟨msgZ, none, 0⟩, rfl, rfl, msgZ_good _, Dj.nil _, (un_nil _).symm, rfl⟩
      · obtain ⟨o, rfl⟩ : ∃ o : Nat, og = ((o + 1 : Nat) : Int) := ⟨(og - 1).toNat, by omega⟩
        obtain ⟨p, rfl⟩ : ∃ p : Nat, z = ((p + 1 : Nat) : Int) := ⟨(z - 1).toNat, by omega⟩
        have ho11 : o < 11 := by omega
        have hstr := loreCells_str n l i ho11
        have hsl := strmV_le l o
        have hll := hi.2.1
        have hfind : findM (l.map MV.m) ((o + 1 : Nat) : Int) ((p + 1 : Nat) : Int) = ((strmV l o).map MV.m)[p]? := by
          rw [hi.2.2.1.find (by omega), strmV_map]
        have hoz : ((o + 1 : Nat) : Int) - 1 = (o : Nat) := by omega
        have hpz : ((p + 1 : Nat) : Int) - 1 = (p : Nat) := by omega
        by_cases h4 : p < (strmV l o).length
        · obtain ⟨y, hy⟩ : ∃ y, (strmV l o)[p]? = some y := ⟨_, List.getElem?_eq_getElem h4⟩
          have hyes : getM (l.map MV.m) ((o + 1 : Nat) : Int) ((p + 1 : Nat) : Int) = (y.m, true) := by unfold getM; rw [hfind, List.getElem?_map, hy]; rfl
          have hyg : y.Good f := (hi.1 y (strmV_mem hy)).mono hfl
          refine Fn.front (x := fam (strH l i) 11) (by repeat (first | exact .here _ _ | apply Pull.there)) ?_
          refine Fn.enter Tryz.func28 rfl Tryz.ntmps28 rfl (L := [(0, _), (1, _), (2, _)]) ⟨rfl, rfl, rfl, trivial⟩ fun base => ?_
          refine H.famPull ho11 ?_
          refine H.slc_some (p := i.P o) (n0 := (strmV l o).length) (c := i.C o) (.here _ _ _) (by omega) fun sb hp => ?_
          have hrd : ∀ {f G}, Rd f (strH l i o :: G) sb (p * 121) y.vals := fun {f G} => by
            unfold strH
            rw [hp]
            exact Rd.slcElem MV.len (by decide) (.here _ _ _) hy
          rw [hp] at hstr
          refine H.front (x := row lb _ _) (by repeat (first | exact .here _ _ | apply Pull.there)) ?_
          refine H.front (x := strH l i o) (by repeat (first | exact .here _ _ | apply Pull.there)) ?_
          repeat ((first | apply H.seq | apply H.region))
          refine H.alloc (ls := msgZ.vals none 0) rfl rfl rfl fun ob => ?_
          repeat (first | ((first | apply H.move | apply H.assign | apply H.nilCheck); (iterate 3 exact rfl)) | (apply H.fieldAddr; (iterate 3 exact rfl); exact inferInstance; exact rfl) | (apply H.load1; (iterate 3 exact rfl); apply Rd1.ofRow; (repeat (first | exact .here _ _ _ | apply At.there)); (iterate 2 exact rfl)) | (first | apply H.seq | apply H.region | apply H.nil | apply H.then_normal) | ((apply H.cmp); (iterate 5 exact rfl)) | ((apply H.ar; (iterate 4 exact rfl)); (with_reducible apply wr_i64_s1; omega); exact rfl) | ((apply H.pickF); (iterate 4 exact rfl)) | ((apply H.ptrNil); (iterate 5 exact rfl)) | (apply H.gno; (iterate 3 exact rfl); (assumption)))
          refine H.index_array (i := o) rfl rfl rfl rfl ho11 rfl ?_
          refine H.load1 rfl rfl rfl (Rd1.at0 (Rd.ofRow (.there _ (.there _ (.here _ _ _)))) (by rw [Nat.mul_one, Nat.zero_add]; exact hstr)) rfl ?_
          repeat (first | ((first | apply H.move | apply H.nilCheck | apply H.len_slice); (iterate 3 exact rfl)) | (apply H.fieldAddr; (iterate 3 exact rfl); exact inferInstance; exact rfl) | (first | apply H.seq | apply H.region | apply H.nil | apply H.then_normal) | ((apply H.cmp); (iterate 5 exact rfl)) | ((first | (apply H.ar; (iterate 4 exact rfl)) | (apply H.conv_int; (iterate 2 exact rfl))); (first | (with_reducible apply wr_i64_s1; omega) | (with_reducible apply wr_u64; omega)); exact rfl) | ((apply H.pickF); (iterate 4 exact rfl)) | (apply H.skip) | (apply H.cond_no; exact rfl; (omega)))
          refine H.index_array (i := o) rfl rfl rfl rfl ho11 rfl ?_
          refine H.load1 rfl rfl rfl (Rd1.at0 (Rd.ofRow (.there _ (.there _ (.here _ _ _)))) (by rw [Nat.mul_one, Nat.zero_add]; exact hstr)) rfl ?_
          repeat (first | ((apply H.move); (iterate 3 exact rfl)) | ((apply H.ar; (iterate 4 exact rfl)); (with_reducible apply wr_u64; omega); exact rfl))
          refine H.index_slice (i := p) rfl rfl rfl (by omega) h4 rfl ?_
          refine H.front (x := strH l i o) (by repeat (first | exact .here _ _ | apply Pull.there)) ?_
          refine H.loadN (ls := y.vals) rfl rfl rfl (by rw [Nat.zero_add]; exact hrd) rfl rfl ?_
          refine H.callE2 rfl rfl rfl (lown_fn f _ hyg) fun qp qc => ?_
          refine H.freeze (.here _ _) fun g hg hd => ?_
          refine H.storeN (ls := msgZ.vals none 0) (vs := y.m.vals qp qc) (ls' := y.m.vals qp qc) rfl rfl rfl (allOne_mem rfl) rfl rfl (Nat.le_refl 121) (by repeat (first | exact .here _ _ _ | apply At.there)) ?_
          repeat (first | ((apply H.assign); (iterate 3 exact rfl)) | (first | apply H.nil | apply H.then_normal) | (apply H.ret))
          refine H.front (x := fam (updF (strH l i) o emp) 11) (by repeat (first | exact .here _ _ | apply Pull.there)) ?_
          refine H.front (x := strH l i o) (by repeat (first | exact .here _ _ | apply Pull.there)) ?_
          refine H.famBack ho11 ?_
          refine H.front (x := row lb _ _) (by repeat (first | exact .here _ _ | apply Pull.there)) ?_
          refine H.front (x := row ob _ _) (by repeat (first | exact .here _ _ | apply Pull.there)) ?_
          rw [hyes]
          exact H.retCT (ls := y.m.vals qp qc) rfl rfl rfl rfl (Rd.ofRow (.here _ _ _)) rfl (fun _ s => (s.drop (.here _ _)).imp (lore_fold i hi)) ⟨g, ⟨y.m, qp, qc⟩, rfl, rfl, ⟨qs_qat hg hd, hyg.2⟩, hd, rfl, rfl⟩
        · have hno : getM (l.map MV.m) ((o + 1 : Nat) : Int) ((p + 1 : Nat) : Int) = (msgZ, false) := by unfold getM; rw [hfind, List.getElem?_eq_none (by rw [List.length_map]; omega)]
          refine Fn.enter Tryz.func28 rfl Tryz.ntmps28 rfl (L := [(0, _), (1, _), (2, _)]) ⟨rfl, rfl, rfl, trivial⟩ fun base => ?_
          repeat ((first | apply H.seq | apply H.region))
          refine H.alloc (ls := msgZ.vals none 0) rfl rfl rfl fun ob => ?_
          repeat (first | ((first | apply H.move | apply H.assign | apply H.nilCheck); (iterate 3 exact rfl)) | (apply H.fieldAddr; (iterate 3 exact rfl); exact inferInstance; exact rfl) | (apply H.load1; (iterate 3 exact rfl); apply Rd1.ofRow; (repeat (first | exact .here _ _ _ | apply At.there)); (iterate 2 exact rfl)) | (first | apply H.seq | apply H.region | apply H.nil | apply H.then_normal) | ((apply H.cmp); (iterate 5 exact rfl)) | ((apply H.ar; (iterate 4 exact rfl)); (with_reducible apply wr_i64_s1; omega); exact rfl) | ((apply H.pickF); (iterate 4 exact rfl)) | ((apply H.ptrNil); (iterate 5 exact rfl)) | (apply H.gno; (iterate 3 exact rfl); (assumption)))
          refine H.index_array (i := o) rfl rfl rfl rfl ho11 rfl ?_
          refine H.load1 rfl rfl rfl (Rd1.at0 (Rd.ofRow (.there _ (.here _ _ _))) (by rw [Nat.mul_one, Nat.zero_add]; exact hstr)) rfl ?_
          repeat (first | ((apply H.len_slice); (iterate 3 exact rfl)) | (first | apply H.seq | apply H.region | apply H.nil | apply H.then_normal) | ((apply H.cmp); (iterate 5 exact rfl)) | ((apply H.conv_int; (iterate 2 exact rfl)); (with_reducible apply wr_u64; omega); exact rfl) | ((apply H.pickF); (iterate 4 exact rfl)) | (apply H.cond_yes; exact rfl; (omega)))
          refine H.loadN (ls := msgZ.vals none 0) rfl rfl rfl (Rd.ofRow (.here _ _ _)) rfl rfl ?_
          refine H.storeN (ls := msgZ.vals none 0) (vs := msgZ.vals none 0) (ls' := msgZ.vals none 0) rfl rfl rfl (allOne_mem rfl) rfl rfl (Nat.le_refl 121) (.here _ _ _) ?_
          repeat (first | ((apply H.assign); (iterate 3 exact rfl)) | (first | apply H.nil | apply H.then_normal) | (first | apply H.ret | apply H.then_ret))
          rw [hno]
          exact H.retCT rfl rfl rfl rfl (Rd.ofRow (.here _ _ _)) rfl (fun _ s => (s.drop (.here _ _)).imp (lore_fold i hi)) ⟨nil0, ⟨msgZ, none, 0⟩, rfl, rfl, msgZ_good _, Dj.nil _, (un_nil _).symm, rfl⟩
end
end Go.Proofs.YtoigpgdmignaoaaGreatDoor
