/- The engine, part d: slices that the call owns and that grow ('slc'), append, make, copy, slice expressions. No program in sight; no conditions. -/
import Derived.Test.YtfplfddobjbbnaaEc
namespace Go.Proofs.Ytfplfddobjbbnaa
set_option linter.unusedSectionVars false
set_option linter.unusedSimpArgs false
set_option linter.unusedVariables false
open Go

class Byt (P : Program) (t : TypeId) (n : outParam Nat) : Prop where
  eq : (P.info? t).map (·.bytes) = some n

/-- A slice's value, and the row behind it, which the call owns: xs are its cells (sz for an element). -/
def slc (p : Option Addr) (n c : Nat) (T : TypeId) (sz : Nat) (xs : List Value) : HP := fun h =>
  xs.length = n * sz ∧ c ≤ 9223372036854775807 ∧ ((n = 0 ∧ c = 0 ∧ h = nil0) ∨ ∃ b sp, p = some ⟨b, 0, none⟩ ∧ n ≤ c ∧ (xs ++ sp).length = c * sz ∧ h = sing b (.cells (xs ++ sp).toArray T (0, 0)))

theorem slc_nil (p : Option Addr) (T : TypeId) (sz : Nat) : slc p 0 0 T sz [] nil0 := ⟨by simp, by omega, .inl ⟨rfl, rfl, rfl⟩⟩
theorem row_slc {b : Nat} {T : TypeId} {sz n : Nat} {l : List Value} (hl : l.length = n * sz) (hn : n ≤ 9223372036854775807) {h : Frag} (hr : row b T l h) : slc (some ⟨b, 0, none⟩) n n T sz l h :=
  ⟨hl, hn, .inr ⟨b, [], rfl, Nat.le_refl _, by simpa using hl, by rw [List.append_nil]; exact hr⟩⟩

theorem Sat.slc_at {base w : World} {f : Frag} {A A' : List HP} {p : Option Addr} {n c sz : Nat} {T : TypeId} {xs : List Value} {y : HP} (s : Sat base w f A) (h : At A (slc p n c T sz xs) A' y) :
    xs.length = n * sz ∧ c ≤ 9223372036854775807 ∧ ((n = 0 ∧ c = 0) ∨ ∃ b sp, p = some ⟨b, 0, none⟩ ∧ n ≤ c ∧ (xs ++ sp).length = c * sz ∧ w.heap[b]? = some (.cells (xs ++ sp).toArray T (0, 0))) := by
  obtain ⟨R, h1, _⟩ := h.split
  obtain ⟨m, hm, _, hw⟩ := s.mem
  rw [h1] at hm
  obtain ⟨m1, m2, _, rfl, ⟨a1, a2, a3⟩, _⟩ := hm
  refine ⟨a1, a2, ?_⟩
  rcases a3 with ⟨e2, e3, _⟩ | ⟨b, sp, e1, e2, e3, rfl⟩
  · exact .inl ⟨e2, e3⟩
  · exact .inr ⟨b, sp, e1, e2, e3, hw b _ (by simp [un, sing])⟩

theorem Rd.ofSlc {f : Frag} {A : List HP} {b n c sz : Nat} {T : TypeId} {xs : List Value} {A' : List HP} (h : At A (slc (some ⟨b, 0, none⟩) n c T sz xs) A' (slc (some ⟨b, 0, none⟩) n c T sz xs)) (h0 : 0 < n) : Rd f A b 0 xs := fun base w s => by
  obtain ⟨_, _, h3⟩ := s.slc_at h
  rcases h3 with ⟨e, _⟩ | ⟨b', sp, e, _, _, hw⟩
  · omega
  · cases e
    exact ⟨_, _, _, hw, fun i hi => by simp only [Nat.zero_add, List.getElem?_toArray]; exact List.getElem?_append_left hi⟩

/-- A new block in the place of something that is let go. -/
theorem Sat.fresh {base w w' : World} {f : Frag} {A A' : List HP} {x y : HP} {o : Obj} (s : Sat base w f A) (h : At A x A' y)
    (hos : w'.os = w.os) (ht : w'.tape = w.tape) (ho : w'.output = w.output) (hh : w'.heap = w.heap.push o) (hy : y (sing w.heap.size o)) : Sat base w' f A' := by
  obtain ⟨R, h1, h2⟩ := h.split
  have s1 := s.alloc hos ht ho hh
  have s2 : Sat base w' f [pts w.heap.size o, x, R] := s1.conv (by simp only [stars, h1, star_emp])
  have s3 := s2.drop (.there _ (.here _ _))
  refine s3.imp fun m hm => ?_
  rw [h2]
  simp only [stars, star_emp] at hm
  obtain ⟨m1, m2, d, rfl, rfl, hr⟩ := hm
  exact ⟨_, m2, d, rfl, hy, hr⟩
/-- What stands at a place of A, for other memory of the same block. -/
theorem Sat.turnRow {base w w' : World} {f : Frag} {A A' : List HP} {x y : HP} {b : Nat} {o' : Obj} (s : Sat base w f A) (h : At A x A' y)
    (hx : ∀ m, x m → ∃ o, m = sing b o) (hos : w'.os = w.os) (ht : w'.tape = w.tape) (ho : w'.output = w.output) (hh : w'.heap = w.heap.setIfInBounds b o') (hy : y (sing b o')) : Sat base w' f A' := by
  obtain ⟨R, h1, h2⟩ := h.split
  obtain ⟨o, s1⟩ : ∃ o, Sat base w f [pts b o, R] := by
    obtain ⟨a1, a2, a3, a4, a5, m, hm, hd, hw⟩ := s
    rw [h1] at hm
    obtain ⟨m1, m2, d, e, a, r⟩ := hm
    obtain ⟨o, ho⟩ := hx m1 a
    refine ⟨o, a1, a2, a3, a4, a5, m, ?_, hd, hw⟩
    simp only [stars, star_emp]
    exact ⟨m1, m2, d, e, ho, r⟩
  have s2 := s1.set (.here _ _ (pts b o')) hos ht ho hh
  refine s2.imp fun m hm => ?_
  rw [h2]
  simp only [stars, star_emp] at hm
  obtain ⟨m1, m2, d, e, a, r⟩ := hm
  exact ⟨m1, m2, d, e, by rw [a]; exact hy, r⟩

/-- What is appended, or copied: m elements, the cells news. -/
structure Src (P : Program) (f : Frag) (A : List HP) (x : Value) (sz m : Nat) (news : List Value) : Prop where
  len : ∀ w, (Builtin.lenOf x).run P w = .ok m w
  cells : ∀ base w, Sat base w f A → (Builtin.firstCells sz m x).run P w = .ok news.toArray w
  size : news.length = m * sz

theorem Src.slice {P : Program} {f : Frag} {A : List HP} {b off m c sz : Nat} {news : List Value} (h : Rd f A b off news) (hl : news.length = m * sz) : Src P f A (.slice (some ⟨b, off, none⟩) m c) sz m news :=
  ⟨fun w => rfl, fun base w s => run_firstCells_some w sz m ⟨b, off, none⟩ m c news hl (fun j v hj => by rw [add_none]; exact (h base w s).cell hj), hl⟩
theorem Src.nil {P : Program} {f : Frag} {A : List HP} {sz : Nat} : Src P f A (.slice none 0 0) sz 0 [] :=
  ⟨fun w => rfl, fun base w s => run_firstCells_none w sz 0 0 0, by simp⟩
def bytesV (l : List UInt8) : List Value := l.map fun b => .int .u8 (b.toNat : Nat)
theorem Src.string {P : Program} {f : Frag} {A : List HP} {s : ByteArray} : Src P f A (.string s) 1 s.size (bytesV s.data.toList) :=
  ⟨fun w => rfl, fun base w _ => by
    have : (s.extract 0 s.size) = s := by
      have := ByteArray.extract_zero_size (b := s)
      exact this
    show Result.ok _ w = _
    rw [this]
    congr 1
    unfold bytesV
    rw [← List.map_toArray, Array.toArray_toList]
    , by unfold bytesV; rw [List.length_map, Array.length_toList, Nat.mul_one]; rfl⟩
theorem Src.slcS {P : Program} {f : Frag} {A A' : List HP} {p : Option Addr} {n c sz : Nat} {T : TypeId} {xs : List Value} (h : At A (slc p n c T sz xs) A' (slc p n c T sz xs)) (hl : xs.length = n * sz) : Src P f A (.slice p n c) sz n xs :=
  ⟨fun w => rfl, fun base w s => by
    obtain ⟨_, _, h3⟩ := s.slc_at h
    by_cases h0 : 0 < n
    · rcases h3 with ⟨e, _⟩ | ⟨b, sp, rfl, _, _, _⟩
      · omega
      · exact (Src.slice (P := P) (c := c) (Rd.ofSlc h h0) hl).cells base w s
    · have h1 : n = 0 := by omega
      subst h1
      have : xs = [] := List.eq_nil_of_length_eq_zero (by simpa using hl)
      subst this
      cases p with
      | none => exact run_firstCells_none w sz 0 0 c
      | some a => exact run_firstCells_some w sz 0 a 0 c [] (by simp) (by simp), hl⟩

def allOne : List Value → Bool
  | [] => true
  | v :: r => one v && allOne r
theorem allOne_mem : ∀ {l : List Value}, allOne l = true → ∀ v ∈ l, one v = true
  | [], _, v, h => by simp at h
  | u :: r, h, v, hv => by
    simp only [allOne, Bool.and_eq_true] at h
    simp only [List.mem_cons] at hv
    rcases hv with rfl | hv
    · exact h.1
    · exact allOne_mem h.2 v hv
theorem one_eq (v : Value) : v.oneCell' = one v := by cases v <;> rfl
def srcD : TypeDesc → Bool
  | .slice _ | .string => true
  | _ => false
theorem srcD_cases {d : TypeDesc} (h : srcD d = true) : (∃ e, d = .slice e) ∨ d = .string := by cases d <;> simp [srcD] at h <;> simp

section rules
variable {P : Program} {base : World} {n : Nat} {L : Env} {f : Frag} {A : List HP} {q : Post}
variable {l rest : List Oper} {d : Nat} {ty : TypeId} {pos : String} {af : Array Edge} {gd : Option (Nat × Bool)}

theorem info_of {t : TypeId} {sz bytes : Nat} {z : Value} (hs : Siz P t sz) (hb : Byt P t bytes) (hz : Zer P t z) : ∃ i, P.info? t = some i ∧ i.size = sz ∧ i.bytes = bytes ∧ i.zero = some z := by
  have h1 := hs.eq; have h2 := hb.eq; have h3 := hz.eq
  cases hi : P.info? t with
  | none => rw [hi] at h1; cases h1
  | some i =>
    rw [hi] at h1 h2 h3
    simp at h1 h2 h3
    exact ⟨i, rfl, h1, h2, h3⟩

theorem zeroCells_toList (z : Array Value) (k : Nat) : (Builtin.zeroCells z k).size = k * z.size := by simp [Builtin.zeroCells]

theorem setRow_is {w : World} {b : Nat} {cur cs : Array Value} {T : TypeId} (hg : w.heap[b]? = some (.cells cur T (0, 0))) : (w.setRow b cs).heap = w.heap.setIfInBounds b (.cells cs T (0, 0)) := by
  unfold World.setRow
  apply Array.ext_getElem?
  intro k
  rw [Array.getElem?_modify]
  have hlt : b < w.heap.size := by
    rcases Nat.lt_or_ge b w.heap.size with h | h
    · exact h
    · simp [Array.getElem?_eq_none h] at hg
  by_cases e : b = k
  · subst e
    rw [hg]
    simp [hlt]
  · simp [e, Array.getElem?_setIfInBounds_ne e]
theorem run_append_in {w : World} {t u e ty : TypeId} {du : TypeDesc} {b n c m : Nat} {x : Value} {i : TypeInfo} {cur : Array Value} {news : List Value}
    (hu : Und P t (.slice e)) (hu2 : Und P u du) (hdu : srcD du = true) (hi : P.info? e = some i) (hg : w.heap[b]? = some (.cells cur e (0, 0)))
    (hlen : (Builtin.lenOf x).run P w = .ok m w) (hcells : (Builtin.firstCells i.size m x).run P w = .ok news.toArray w) (hroom : n + m ≤ c) (hfit : n * i.size + news.length ≤ cur.size) (h1 : ∀ v ∈ news, v.oneCell' = true) :
    (Builtin.append_ #[t, u] ty #[.slice (some ⟨b, 0, none⟩) n c, x]).run P w =
      .ok (.slice (some ⟨b, 0, none⟩) (n + m) c) (w.setRow b (cur.toList.take (n * i.size) ++ news ++ cur.toList.drop (n * i.size + news.length)).toArray) := by
  have hst := run_storeCells_at P b (n * i.size) e news 0 cur w hg (by simpa using hfit) h1
  simp only [Nat.add_zero] at hst
  rcases srcD_cases hdu with ⟨e', rfl⟩ | rfl <;>
    simp [Builtin.append_, run_underlying hu.eq, run_underlying hu2.eq, sizeOf, typeInfo, hi, hlen, hcells, hroom, Addr.add_lit, hst]
theorem run_append_out {w : World} {t u e ty : TypeId} {du : TypeDesc} {p : Option Addr} {n c m : Nat} {x z : Value} {i : TypeInfo} {olds news : List Value}
    (hu : Und P t (.slice e)) (hu2 : Und P u du) (hdu : srcD du = true) (hi : P.info? e = some i) (hz : i.zero = some z)
    (hlen : (Builtin.lenOf x).run P w = .ok m w) (hold : (Builtin.firstCells i.size n (.slice p n c)).run P w.drew = .ok olds.toArray w.drew) (hcells : (Builtin.firstCells i.size m x).run P w.drew = .ok news.toArray w.drew)
    (hg : c < n + m) (h63 : n + m ≤ 9223372036854775807) (hfit : Builtin.nextslicecap (n + m) c * i.bytes ≤ 281474976710656) :
    (Builtin.append_ #[t, u] ty #[.slice p n c, x]).run P w =
      .ok (.slice (some ⟨w.heap.size, 0, none⟩) (n + m) (grownCap w (n + m) c e)) (w.drew.alloc (.cells (olds.toArray ++ news.toArray ++ Builtin.zeroCells z.cells (grownCap w (n + m) c e - (n + m))) e)) := by
  have hn : ¬ (n + m ≤ c) := by omega
  have h63' : ¬ (9223372036854775807 < ((n : Int) + (m : Int))) := by omega
  have h48' : ¬ (281474976710656 < Builtin.nextslicecap (n + m) c * i.bytes) := by omega
  rcases srcD_cases hdu with ⟨e', rfl⟩ | rfl <;>
    simp [Builtin.append_, run_underlying hu.eq, run_underlying hu2.eq, sizeOf, typeInfo, zeroValue, hi, hz, hlen, hold, hcells, hn, h63', h48', Question.forced, newRow, grownCap] <;>
    rw [← Array.append_assoc, List.append_toArray olds news]

/-- 'append', at a slice that the call owns. -/
theorem run_append_slc {w : World} {A' : Option Addr → Nat → List HP} {t u e ty : TypeId} {du : TypeDesc} {p : Option Addr} {n c sz m bytes : Nat} {xs news : List Value} {x z : Value}
    (hu : Und P t (.slice e)) (hu2 : Und P u du) (hs : Siz P e sz) (hb : Byt P e bytes) (hz : Zer P e z) (hdu : srcD du = true)
    (s : Sat base w f A) (hA : ∀ p' c', At A (slc p n c e sz xs) (A' p' c') (slc p' (n + m) c' e sz (xs ++ news)))
    (hsrc : Src P f A x sz m news) (h1 : ∀ v ∈ news, one v = true) (hzs : z.cells.size = sz) (h63 : n + m ≤ 9223372036854775807) (hby : (n + m) * bytes ≤ 140737488355328) :
    ∃ p' c' w', (Builtin.append_ #[t, u] ty #[.slice p n c, x]).run P w = .ok (.slice p' (n + m) c') w' ∧ Sat base w' f (A' p' c') := by
  obtain ⟨i, hi, rfl, rfl, hiz⟩ := info_of hs hb hz
  obtain ⟨hl, hc, h3⟩ := s.slc_at (hA none 0)
  have hlen : (xs ++ news).length = (n + m) * i.size := by rw [List.length_append, hl, hsrc.size, Nat.add_mul]
  have h1' : ∀ v ∈ news, v.oneCell' = true := fun v hv => by rw [one_eq]; exact h1 v hv
  have hlx : (Builtin.lenOf x).run P w = .ok m w := hsrc.len w
  have grown : ∀ olds : List Value, olds = xs → (Builtin.firstCells i.size n (.slice p n c)).run P w.drew = .ok olds.toArray w.drew → c < n + m →
      ∃ p' c' w', (Builtin.append_ #[t, u] ty #[.slice p n c, x]).run P w = .ok (.slice p' (n + m) c') w' ∧ Sat base w' f (A' p' c') := by
    intro olds ho hold hg
    subst ho
    have hcells := hsrc.cells base w.drew (s.same rfl rfl rfl rfl)
    have hr := run_append_out (ty := ty) hu hu2 hdu hi hiz hlx hold hcells hg h63 (growslice_fits hg hby)
    refine ⟨_, _, _, hr, s.fresh (hA _ _) rfl rfl rfl rfl ⟨hlen, ?_, .inr ⟨_, (Builtin.zeroCells z.cells (grownCap w (n + m) c e - (n + m))).toList, rfl, grownCap_ge _ _ _ _, ?_, ?_⟩⟩⟩
    · have := grownCap_le_maxLen w (n + m) c e (by unfold maxLen; omega)
      unfold maxLen at this; omega
    · have hge := grownCap_ge w (n + m) c e
      rw [List.length_append, hlen, Array.length_toList, size_zeroCells, hzs, ← Nat.add_mul]; congr 1; omega
    · congr 2
      rw [← List.append_toArray, ← List.append_toArray, Array.toArray_toList]
  by_cases h00 : n = 0 ∧ c = 0
  · obtain ⟨rfl, rfl⟩ := h00
    clear h3
    have hx : xs = [] := List.eq_nil_of_length_eq_zero (by simpa using hl)
    subst hx
    by_cases hm : m = 0
    · subst hm
      have hn : news = [] := List.eq_nil_of_length_eq_zero (by simpa using hsrc.size)
      subst hn
      refine ⟨p, 0, w, ?_, ?_⟩
      · have hf := hsrc.cells base w s
        rcases srcD_cases hdu with ⟨e', rfl⟩ | rfl <;> cases p <;>
          simp [storeCells, Builtin.append_, run_underlying hu.eq, run_underlying hu2.eq, sizeOf, typeInfo, hi, hlx, hf]
      · obtain ⟨R, e1, e2⟩ := (hA p 0).split
        exact s.conv (by rw [e1, e2]; simp)
    · refine grown [] rfl ?_ (by omega)
      cases p with
      | none => exact run_firstCells_none w.drew i.size 0 0 0
      | some a => exact run_firstCells_some w.drew i.size 0 a 0 0 [] (by simp) (by simp)
  · obtain ⟨b, sp, rfl, hnc, hcs, hw⟩ := h3.resolve_left h00
    by_cases hroom : n + m ≤ c
    · have hfit : n * i.size + news.length ≤ (xs ++ sp).toArray.size := by rw [List.size_toArray, hsrc.size, hcs, ← Nat.add_mul]; exact Nat.mul_le_mul_right _ hroom
      have hr := run_append_in (ty := ty) hu hu2 hdu hi hw hlx (hsrc.cells base w s) hroom hfit h1'
      have hsz : news.length ≤ sp.length := by simp [hl] at hfit; exact hfit
      have e1 : (xs ++ sp).toArray.toList.take (n * i.size) ++ news ++ (xs ++ sp).toArray.toList.drop (n * i.size + news.length) = xs ++ news ++ sp.drop news.length := by
        simp only [← hl]
        rw [List.take_left, List.drop_append, List.drop_eq_nil_of_le (by omega), List.nil_append]
        congr 2
        omega
      rw [e1] at hr
      refine ⟨some ⟨b, 0, none⟩, c, _, hr, s.turnRow (hA (some ⟨b, 0, none⟩) c) (b := b) (o' := .cells (xs ++ news ++ (sp.drop news.length)).toArray e (0, 0)) ?_ rfl rfl rfl ?_ ?_⟩
      · rintro m1 ⟨_, _, h⟩
        rcases h with ⟨h, h', _⟩ | ⟨b', sp', h, _, hcs', rfl⟩
        · exact absurd ⟨h, h'⟩ h00
        · cases h; exact ⟨_, rfl⟩
      · exact setRow_is hw
      · refine ⟨hlen, hc, .inr ⟨b, sp.drop news.length, rfl, hroom, ?_, rfl⟩⟩
        simp only [List.length_append, List.length_drop] at hcs ⊢
        omega
    · have hf := run_firstCells_some (P := P) w.drew i.size n ⟨b, 0, none⟩ n c xs hl (fun j v hj => by
        rw [add_none]
        have : j < xs.length := by
          rcases Nat.lt_or_ge j xs.length with h | h
          · exact h
          · simp [List.getElem?_eq_none h] at hj
        simp [World.cell?, show w.drew.heap = w.heap from rfl, hw, List.getElem?_append_left this, hj])
      exact grown xs rfl hf (by omega)

theorem run_builtin_append {t u ty : TypeId} {x y : Operand} {a : Act} {w w' : World} {dd : Option Tmp} {v : Value} (h : (Builtin.append_ #[t, u] ty #[a.eval x, a.eval y]).run P w = .ok v w') :
    (execOp a.eval ⟨dd, .call ⟨.builtin .append, #[x, y], #[t, u]⟩, ty, pos, af, gd⟩).run P w = .ok (.value v) w' := by
  simp only [execOp, resolve, invoke, builtin, Sem.run_bind, Sem.run_pure, Result.andThen_ok, List.map_toArray, List.map_cons, List.map_nil, h]
theorem H.append {A' : Option Addr → Nat → List HP} {t u e : TypeId} {du : TypeDesc} {x y : Operand} {p : Option Addr} {n0 c sz m bytes : Nat} {xs news : List Value} {xv z : Value}
    [hu : Und P t (.slice e)] [hu2 : Und P u du] [hs : Siz P e sz] [hb : Byt P e bytes] [hz : Zer P e z] (hw : want? l L gd = true) (hd : Nat.ble (d + 1) n = true) (hx : ev? L x = some (.slice p n0 c)) (hy : ev? L y = some xv) (hdu : srcD du = true)
    (hA : ∀ p' c', At A (slc p n0 c e sz xs) (A' p' c') (slc p' (n0 + m) c' e sz (xs ++ news)))
    (hsrc : Src P f A xv sz m news) (h1 : ∀ v ∈ news, one v = true) (hzs : z.cells.size = sz) (h63 : n0 + m ≤ 9223372036854775807) (hby : (n0 + m) * bytes ≤ 140737488355328)
    (k : ∀ p' c', H P base n ((d, .slice p' (n0 + m) c') :: L) f (A' p' c') (.ops l rest q)) :
    H P base n L f A (.ops l (⟨some d, .call ⟨.builtin .append, #[x, y], #[t, u]⟩, ty, pos, af, gd⟩ :: rest) q) :=
  H.opE (ι := Option Addr × Nat) (fun i => .slice i.1 (n0 + m) i.2) (fun _ => f) (fun i => A' i.1 i.2) (fun _ => True) hw hd (fun a w hfr s => by
    obtain ⟨p', c', w', hr, s'⟩ := run_append_slc (ty := ty) hu hu2 hs hb hz hdu s hA hsrc h1 hzs h63 hby
    exact ⟨(p', c'), w', trivial, run_builtin_append (by rw [hfr.eval hx, hfr.eval hy]; exact hr), s'⟩) (fun i _ => k i.1 i.2)

/-- A slice that has an element has an address. -/
theorem H.slc_some {A' : List HP} {p : Option Addr} {n0 c sz : Nat} {T : TypeId} {xs : List Value} {K : Kont} (h : At A (slc p n0 c T sz xs) A' (slc p n0 c T sz xs)) (h0 : 0 < n0)
    (k : ∀ b, p = some ⟨b, 0, none⟩ → H P base n L f A K) : H P base n L f A K := .mk fun a w hf s => by
  obtain ⟨_, _, h3⟩ := s.slc_at h
  rcases h3 with ⟨e, _⟩ | ⟨b, sp, e, _⟩
  · omega
  · exact (k b e).out a w hf s
theorem H.slc_len {A' : List HP} {p : Option Addr} {n0 c sz : Nat} {T : TypeId} {xs : List Value} {K : Kont} (h : At A (slc p n0 c T sz xs) A' (slc p n0 c T sz xs))
    (k : xs.length = n0 * sz → H P base n L f A K) : H P base n L f A K := .mk fun a w hf s => (k (s.slc_at h).1).out a w hf s
/-- The index of a slice whose elements are of one cell. -/
theorem H.index1 {t e : TypeId} {x y : Operand} {b off m c i : Nat} {ik : IntKind} {z : Int} [hu : Und P t (.slice e)] [hs : Siz P e 1] (hw : want? l L gd = true)
    (hx : ev? L x = some (.slice (some ⟨b, off, none⟩) m c)) (hy : ev? L y = some (.int ik z)) (hq : z = (i : Nat)) (hi : i < m) (hd : Nat.ble (d + 1) n = true)
    (k : H P base n ((d, .pointer (some ⟨b, off + i, none⟩)) :: L) f A (.ops l rest q)) : H P base n L f A (.ops l (⟨some d, .indexAddr t x y, ty, pos, af, gd⟩ :: rest) q) :=
  H.opV hw hd (fun a w hfr _ => by
    subst hq
    simp only [execOp, Instr.indexAt, hfr.eval hx, hfr.eval hy, Sem.run_bind, asIntOf, Sem.run_pure, Result.andThen_ok, hu.run]
    simp [hi, hs.run, add_none]) k
theorem H.index0 {t e : TypeId} {x y : Operand} {b m c i sz : Nat} {ik : IntKind} {z : Int} [hu : Und P t (.slice e)] [hs : Siz P e sz] (hw : want? l L gd = true)
    (hx : ev? L x = some (.slice (some ⟨b, 0, none⟩) m c)) (hy : ev? L y = some (.int ik z)) (hq : z = (i : Nat)) (hi : i < m) (hd : Nat.ble (d + 1) n = true)
    (k : H P base n ((d, .pointer (some ⟨b, i * sz, none⟩)) :: L) f A (.ops l rest q)) : H P base n L f A (.ops l (⟨some d, .indexAddr t x y, ty, pos, af, gd⟩ :: rest) q) :=
  H.opV hw hd (fun a w hfr _ => by
    subst hq
    simp only [execOp, Instr.indexAt, hfr.eval hx, hfr.eval hy, Sem.run_bind, asIntOf, Sem.run_pure, Result.andThen_ok, hu.run]
    simp [hi, hs.run, add_none]) k
/-- A store into an element. -/
theorem H.store_slc {t : TypeId} {x y : Operand} {b off n0 c sz : Nat} {T : TypeId} {xs xs' : List Value} {v : Value} {A' : List HP} [hs : Siz P t 1] (hw : want? l L gd = true) (hx : ev? L x = some (.pointer (some ⟨b, off, none⟩))) (hy : ev? L y = some v) (hv : one v = true)
    (hA : At A (slc (some ⟨b, 0, none⟩) n0 c T sz xs) A' (slc (some ⟨b, 0, none⟩) n0 c T sz xs')) (hset : SetV xs off v xs')
    (k : H P base n L f A' (.ops l rest q)) : H P base n L f A (.ops l (⟨none, .store t x y, ty, pos, af, gd⟩ :: rest) q) :=
  H.opS hw (fun a w hfr s => by
    obtain ⟨e1, e2⟩ := hset.eq
    subst e1
    obtain ⟨hl, hc, h3⟩ := s.slc_at hA
    rcases h3 with ⟨e, _⟩ | ⟨b', sp, e, hn, hcs, hb⟩
    · subst e; simp at hl; subst hl; simp at e2
    · cases e
      have hcv : v.cells = #[v] := by cases v <;> simp_all [one, Value.cells]
      have h1 := run_store_row (P := P) (i := off) hb (by simp; omega) hv
      refine ⟨World.putRow' w b T ((xs ++ sp).set off v), ?_, s.turnRow hA (b := b) (o' := .cells (xs.set off v ++ sp).toArray T (0, 0)) ?_ rfl rfl rfl ?_ ?_⟩
      · simp only [execOp, hfr.eval hx, hfr.eval hy, Instr.storeAt, Instr.sureAddr, storeVar, storeCells, hcv, Sem.run_bind, Sem.run_pure, Result.andThen_ok, hs.run]
        simp [add_none, h1]
      · rintro m1 ⟨_, _, h⟩
        rcases h with ⟨h, _⟩ | ⟨b', sp', h, _, hcs', rfl⟩
        · subst h; simp at hl; subst hl; simp at e2
        · cases h; exact ⟨_, rfl⟩
      · show (World.putRow' w b T ((xs ++ sp).set off v)).heap = _
        rw [List.set_append_left _ _ e2]; rfl
      · exact ⟨by simpa using hl, hc, .inr ⟨b, sp, rfl, hn, by simpa using hcs, rfl⟩⟩) k
end rules
end Go.Proofs.Ytfplfddobjbbnaa
