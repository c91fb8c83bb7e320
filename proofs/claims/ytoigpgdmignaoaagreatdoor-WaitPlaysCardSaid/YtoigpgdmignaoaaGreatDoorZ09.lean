/- Parts of the proof, one behind the other, each under its own heading. No conditions. -/
import Derived.Test.YtoigpgdmignaoaaGreatDoorZ08
import Derived.Test.YtoigpgdmignaoaaGreatDoorRows
import Derived.Test.YtoigpgdmignaoaaGreatDoorCards
import Derived.Test.YtoigpgdmignaoaaGreatDoorTie
set_option linter.unusedSectionVars false
set_option linter.unusedSimpArgs false
set_option linter.unusedVariables false
/- Layer 13: the document's wait: room, Put. No condition. -/
namespace Go.Proofs.YtoigpgdmignaoaaGreatDoor
open Go
def RWφ (f : Frag) (L : List MV) : Prop := (∀ x ∈ L, x.Good f ∧ Pos x.m) ∧ L.length ≤ 100000
def waitR (f : Frag) (yb : Nat) (L : List MV) : HP := pack (fun _ : Option Addr × Nat => RWφ f L) (fun i => [row yb 76 [.slice i.1 L.length i.2], slc i.1 L.length i.2 47 121 (L.flatMap MV.vals)])
theorem zaq {fl : Frag} {F : List HP} {yb : Nat} {L : List MV} (i : Option Addr × Nat) (h : RWφ fl L) : ∀ x, stars (row yb 76 [.slice i.1 L.length i.2] :: slc i.1 L.length i.2 47 121 (L.flatMap MV.vals) :: F) x → stars (waitR fl yb L :: F) x := fun x hx =>
 pack_fold (ι := Option Addr × Nat) (φ := fun _ => RWφ fl L) (B := fun i => [row yb 76 [.slice i.1 L.length i.2], slc i.1 L.length i.2 47 121 (L.flatMap MV.vals)]) i h x hx
theorem waitR_mono {f g : Frag} (h : Le f g) {yb : Nat} {L : List MV} : ∀ x, waitR f yb L x → waitR g yb L x := fun _ ⟨i, hi, hx⟩ => ⟨i, ⟨fun x hx => ⟨(hi.1 x hx).1.mono h, (hi.1 x hx).2⟩, hi.2⟩, hx⟩
theorem waitR_up {f g : Frag} (h : Le f g) {yb : Nat} {L : List MV} {A : List HP} : ∀ x, stars (waitR f yb L :: A) x → stars (waitR g yb L :: A) x :=
 fun _ ⟨h1, h2, hd, he, ha, hr⟩ => ⟨h1, h2, hd, he, waitR_mono h _ ha, hr⟩
theorem MV_at {L : List MV} {i : Nat} {y : MV} (h : L[i]? = some y) : (L.map MV.m)[i]? = some y.m := by rw [List.getElem?_map, h]; rfl
theorem MV_of {L : List MV} {i : Nat} {t : Msg} (h : (L.map MV.m)[i]? = some t) : ∃ y, L[i]? = some y ∧ y.m = t := by
 rw [List.getElem?_map] at h
 cases e : L[i]? with
 | none => rw [e] at h; cases h
 | some y => rw [e] at h; cases h; exact ⟨y, rfl, rfl⟩
def RoomP (f fl : Frag) (F : List HP) (yb : Nat) (L : List MV) (m : Msg) : Value → Frag → List HP → Prop := fun v f' A' =>
 ∃ (b : Bool) (L' : List MV), ((b = false ∧ L' = L ∧ ∀ t, Top (L.map MV.m) m.origin t → t.number < m.number) ∨ (b = true ∧ L'.length + 1 = L.length ∧ ∃ t, Top (L.map MV.m) m.origin t ∧ ¬ t.number < m.number ∧ (t :: L'.map MV.m).Perm (L.map MV.m))) ∧
  v = .bool b ∧ f' = f ∧ A' = waitR fl yb L' :: F
theorem top_pos {ws : List Msg} {o : Int} {t : Msg} (h : Top ws o t) : 0 < cntO ws o := by
 unfold cntO
 exact List.length_pos_of_mem (List.mem_filter.2 ⟨h.mem, decide_eq_true h.org⟩)
theorem TopAt.top {L : List MV} {o : Int} {j : Nat} {z : MV} (h : TopAt (L.map MV.m) o L.length (some j)) (hz : L[j]? = some z) : Top (L.map MV.m) o z.m := by
 obtain ⟨t, ht, h1⟩ := TopAt.some_all (by rw [List.length_map]; exact h)
 rw [MV_at hz] at ht
 cases ht
 exact h1
theorem Top.num {ws : List Msg} {o : Int} {s t : Msg} (hs : Top ws o s) (ht : Top ws o t) : s.number = t.number :=
 Int.le_antisymm (ht.max s hs.mem hs.org) (hs.max t ht.mem ht.org)
section
variable (f : Frag) (F : List HP)
set_option maxRecDepth 20000 in
set_option maxHeartbeats 1600000 in
theorem rroom_fn {fl : Frag} {yb : Nat} {L : List MV} {x : MV} :
  Fn Tryz.prog 71 [.pointer (some ⟨yb, 0, none⟩), .agg x.vals.toArray] f (waitR fl yb L :: F) (RoomP f fl F yb L x.m) := by
 refine Fn.unpack fun i0 hi => ?_
 obtain ⟨p, c⟩ := i0
 have hll := hi.2
 refine Fn.enter Tryz.func71 rfl Tryz.ntmps71 rfl (L := [(0, _), (1, _)]) ⟨rfl, rfl, trivial⟩ fun base => ?_
 repeat ((first | apply H.seq | apply H.Ab))
 refine H.box (ls := x.vals) rfl rfl rfl rfl fun mb => ?_
 repeat (first | ((apply H.Ad); (iterate 3 exact rfl)) | (first | apply H.seq | apply H.Ab | apply H.nil | apply H.Aa) | (apply H.Ao))
 refine H.Ae (x := slc _ _ _ _ _ _) (by repeat constructor) ?_
 refine H.Ae (x := row yb _ _) (by repeat constructor) ?_
 refine H.Ae (x := row mb _ _) (by repeat constructor) ?_
 refine H.Bo (ι := Nat × Option Nat) (fun s => [(6, .int .i64 (s.1 : Int)), (5, .int .i64 (atZ s.2)), (0, .pointer (some ⟨yb, 0, none⟩)), (3, .pointer (some ⟨mb, 0, none⟩))]) (fun _ => f)
  (fun _ => row mb 47 x.vals :: row yb 76 [.slice p L.length c] :: slc p L.length c 47 121 (L.flatMap MV.vals) :: F)
  (fun s => s.1 ≤ L.length ∧ TopAt (L.map MV.m) x.m.origin s.1 s.2) (fun s => L.length - s.1) (0, none) ⟨Nat.zero_le _, TopAt.start _ _⟩ ⟨rfl, rfl, rfl, rfl, trivial⟩ rfl rfl fun s hs => ?_
 obtain ⟨i, a⟩ := s
 obtain ⟨hiL, ha⟩ : i ≤ L.length ∧ TopAt (L.map MV.m) x.m.origin i a := hs
 by_cases hlt : i < L.length
 ·obtain ⟨y, hy⟩ : ∃ y, L[i]? = some y := ⟨_, List.getElem?_eq_getElem hlt⟩
  have hym := MV_at hy
  refine H.Cf (p := p) (n0 := L.length) (c := c) (.there _ (.there _ (.here _ _ _))) (by omega) fun sb hp => ?_
  subst hp
  have rd : ∀ {k : Nat} {z : MV}, L[k]? = some z → Rd f (row mb 47 x.vals :: row yb 76 [.slice (some ⟨sb, 0, none⟩) L.length c] :: slc (some ⟨sb, 0, none⟩) L.length c 47 121 (L.flatMap MV.vals) :: F) sb (0 + k * 121) z.vals := fun {k z} h => by
   rw [Nat.zero_add]; exact Rd.slcElem MV.len (by decide) (.there _ (.there _ (.here _ _ _))) h
  repeat (first | ((first | apply H.Ac | apply H.Ar | apply H.Az); (iterate 3 exact rfl)) | (apply H.Ag; (iterate 3 exact rfl); exact inferInstance; exact rfl) | (apply H.Af; (iterate 3 exact rfl); apply Rd1.ofRow; (repeat (first | exact .here _ _ _ | apply At.there)); (iterate 2 exact rfl)) | (first | apply H.seq | apply H.Ab | apply H.nil | apply H.Aa) | ((apply H.cmp); (iterate 5 exact rfl)) | (first | apply H.Ak | apply H.Ao) | (apply H.Au; exact rfl; (omega)))
  refine H.Bz (by kernel_rfl) (by decide +kernel) (by repeat (first | exact zab | refine zaa ?_ | refine zac ?_ | refine zae ?_)) ?_
  repeat (first | ((first | apply HQ.Ac | apply HQ.Ar); (iterate 3 exact rfl)) | (apply HQ.Ag; (iterate 3 exact rfl); exact inferInstance; exact rfl) | (apply HQ.Af; (iterate 3 exact rfl); apply Rd1.ofRow; (repeat (first | exact .here _ _ _ | apply At.there)); (iterate 2 exact rfl)))
  refine HQ.Bs (i := i) rfl rfl rfl rfl hlt rfl ?_
  repeat ((apply HQ.Ag; (iterate 3 exact rfl); exact inferInstance; exact rfl))
  refine HQ.Af rfl rfl rfl (Rd1.of (i := 0) (rd hy) rfl) rfl ?_
  repeat (first | ((apply HQ.Ac); (iterate 3 exact rfl)) | (apply HQ.Ag; (iterate 3 exact rfl); exact inferInstance; exact rfl) | (apply HQ.Af; (iterate 3 exact rfl); apply Rd1.ofRow; (repeat (exact .here _ _ _)); (iterate 2 exact rfl)) | ((apply HQ.cmp); (iterate 5 exact rfl)))
  by_cases ho : y.m.origin = x.m.origin
  ·cases a with
   | none =>
    have h9 : atZ none = -1 := rfl
    repeat (first | ((first | apply HQ.Ac | apply HQ.Ar); (iterate 3 exact rfl)) | ((apply HQ.Bu); exact rfl) | ((apply HQ.cmp); (iterate 5 exact rfl)) | (apply HQ.Bd; (iterate 2 exact rfl)) | (apply HQ.Ax; (iterate 4 exact rfl)) | (apply HQ.Bi; (iterate 3 exact rfl); (assumption)))
    repeat (first | ((first | apply H.Ac | apply H.Ad); (iterate 3 exact rfl)) | (first | apply H.Ab | apply H.nil | apply H.Aa) | ((apply H.ar; (iterate 4 exact rfl)); (with_reducible apply zag; omega); exact rfl) | (apply H.Bh; exact rfl) | (apply H.Ba))
    exact H.Bc (i + 1, some i) ⟨by show i + 1 ≤ L.length; omega, TopAt.first ha hym ho⟩ (by show L.length - (i + 1) < L.length - i; omega) ⟨rfl, rfl, rfl, rfl, trivial⟩ rfl rfl
   | some j =>
    have ha2 := ha
    obtain ⟨hji, t, ht, _⟩ := ha2
    obtain ⟨z, hz, rfl⟩ := MV_of ht
    have hjl : j < L.length := by omega
    have h9 : atZ (some j) = (j : Int) := rfl
    repeat (first | ((first | apply HQ.Ac | apply HQ.Ar); (iterate 3 exact rfl)) | (apply HQ.Ag; (iterate 3 exact rfl); exact inferInstance; exact rfl) | (apply HQ.Af; (iterate 3 exact rfl); apply Rd1.ofRow; (repeat (first | exact .here _ _ _ | apply At.there)); (iterate 2 exact rfl)) | ((apply HQ.cmp); (iterate 5 exact rfl)) | (apply HQ.Bi; (iterate 3 exact rfl); (assumption)))
    refine HQ.Bs (i := i) rfl rfl rfl rfl hlt rfl ?_
    repeat ((apply HQ.Ag; (iterate 3 exact rfl); exact inferInstance; exact rfl))
    refine HQ.Af rfl rfl rfl (Rd1.of (i := 1) (rd hy) rfl) rfl ?_
    repeat (first | ((first | apply HQ.Ac | apply HQ.Ar); (iterate 3 exact rfl)) | (apply HQ.Ag; (iterate 3 exact rfl); exact inferInstance; exact rfl) | (apply HQ.Af; (iterate 3 exact rfl); apply Rd1.ofRow; (repeat (first | exact .here _ _ _ | apply At.there)); (iterate 2 exact rfl)))
    refine HQ.Bs (i := j) rfl rfl rfl rfl hjl rfl ?_
    repeat ((apply HQ.Ag; (iterate 3 exact rfl); exact inferInstance; exact rfl))
    refine HQ.Af rfl rfl rfl (Rd1.of (i := 1) (rd hz) rfl) rfl ?_
    repeat (first | ((apply HQ.Bu); exact rfl) | ((apply HQ.cmp); (iterate 5 exact rfl)) | (apply HQ.Ax; (iterate 4 exact rfl)) | ((apply HQ.Ay); (iterate 4 exact rfl)))
    by_cases hlz : z.m.number < y.m.number
    ·skip
     skip
     repeat (first | ((first | apply H.Ac | apply H.Ad); (iterate 3 exact rfl)) | (first | apply H.Ab | apply H.nil | apply H.Aa) | ((apply H.ar; (iterate 4 exact rfl)); (with_reducible apply zag; omega); exact rfl) | (apply H.Ba) | (apply H.Au; exact rfl; (assumption)))
     exact H.Bc (i + 1, some i) ⟨by show i + 1 ≤ L.length; omega, TopAt.more ha hym ho ht hlz⟩ (by show L.length - (i + 1) < L.length - i; omega) ⟨rfl, rfl, rfl, rfl, trivial⟩ rfl rfl
    ·skip
     skip
     repeat (first | ((first | apply H.Ac | apply H.Ad); (iterate 3 exact rfl)) | (first | apply H.Ab | apply H.nil | apply H.Aa) | ((apply H.ar; (iterate 4 exact rfl)); (with_reducible apply zag; omega); exact rfl) | (first | apply H.Ak | apply H.Ba) | (apply H.Aw; exact rfl; (assumption)))
     exact H.Bc (i + 1, some j) ⟨by show i + 1 ≤ L.length; omega, TopAt.keep ha hym ht hlz⟩ (by show L.length - (i + 1) < L.length - i; omega) ⟨rfl, rfl, rfl, rfl, trivial⟩ rfl rfl
  ·skip
   repeat (first | ((apply HQ.Bu); exact rfl) | (apply HQ.Bd; (iterate 2 exact rfl)) | ((apply HQ.Ay); (iterate 4 exact rfl)) | (apply HQ.gno; (iterate 3 exact rfl); (assumption)))
   repeat (first | ((first | apply H.Ac | apply H.Ad); (iterate 3 exact rfl)) | (first | apply H.Ab | apply H.nil | apply H.Aa) | ((apply H.ar; (iterate 4 exact rfl)); (with_reducible apply zag; omega); exact rfl) | (apply H.Av; exact rfl) | (first | apply H.Ak | apply H.Ba))
   exact H.Bc (i + 1, a) ⟨by show i + 1 ≤ L.length; omega, TopAt.skip ha hym ho⟩ (by show L.length - (i + 1) < L.length - i; omega) ⟨rfl, rfl, rfl, rfl, trivial⟩ rfl rfl
 ·have e : i = L.length := by omega
  subst e
  cases a with
  | none =>
   show H _ _ _ [_, (5, .int .i64 (-1)), _, _] f (_ :: _ :: _ :: F) _
   repeat (first | ((first | apply H.Ac | apply H.Ar | apply H.Az); (iterate 3 exact rfl)) | (apply H.Ag; (iterate 3 exact rfl); exact inferInstance; exact rfl) | (apply H.Af; (iterate 3 exact rfl); apply Rd1.ofRow; (repeat (first | exact .here _ _ _ | apply At.there)); (iterate 2 exact rfl)) | (first | apply H.seq | apply H.Ab | apply H.nil | apply H.Aa) | ((apply H.cmp); (iterate 5 exact rfl)) | (first | apply H.Bl | apply H.Bj | apply H.Bk | apply H.Bm) | (apply H.Aw; exact rfl; (omega)))
   refine H.Bz (by kernel_rfl) (by decide +kernel) (by repeat (first | exact zab | refine zaa ?_ | refine zac ?_ | refine zae ?_)) ?_
   repeat (first | ((first | apply HQ.Ac | apply HQ.Ar); (iterate 3 exact rfl)) | ((apply HQ.Bu); exact rfl) | ((apply HQ.cmp); (iterate 5 exact rfl)) | (apply HQ.Bd; (iterate 2 exact rfl)) | (apply HQ.Ax; (iterate 4 exact rfl)))
   repeat (first | ((apply H.Ad); (iterate 3 exact rfl)) | (first | apply H.seq | apply H.Ab | apply H.nil | apply H.Aa) | (apply H.Bh; exact rfl) | (first | apply H.ret | apply H.Be))
   refine H.Ae (x := slc _ _ _ _ _ _) (by repeat constructor) ?_
   refine H.Ae (x := row yb _ _) (by repeat constructor) ?_
   refine H.imp (zaq (_, c) hi) ?_
   refine H.Ah (x := row mb _ _) (by repeat constructor) ?_
   refine H.Aj rfl rfl (fun _ h => h) ⟨false, L, .inl ⟨rfl, rfl, fun t ht => ?_⟩, rfl, rfl, rfl⟩
   have h0 := TopAt.none_all (by rw [List.length_map]; exact ha)
   have h1 := top_pos ht
   omega
  | some j =>
   have ha2 := ha
   obtain ⟨hji, t, ht, _⟩ := ha2
   obtain ⟨z, hz, rfl⟩ := MV_of ht
   have htop := TopAt.top ha hz
   show H _ _ _ [_, (5, .int .i64 (j : Int)), _, _] f (_ :: _ :: _ :: F) _
   refine H.Cf (p := p) (n0 := L.length) (c := c) (.there _ (.there _ (.here _ _ _))) (by omega) fun sb hp => ?_
   subst hp
   have rd : ∀ {k : Nat} {z : MV}, L[k]? = some z → Rd f (row mb 47 x.vals :: row yb 76 [.slice (some ⟨sb, 0, none⟩) L.length c] :: slc (some ⟨sb, 0, none⟩) L.length c 47 121 (L.flatMap MV.vals) :: F) sb (0 + k * 121) z.vals := fun {k z} h => by
    rw [Nat.zero_add]; exact Rd.slcElem MV.len (by decide) (.there _ (.there _ (.here _ _ _))) h
   refine H.slc_cap (.there _ (.there _ (.here _ _ _))) fun hcap _ hpl => ?_
   repeat (first | ((first | apply H.Ac | apply H.Ar | apply H.Az); (iterate 3 exact rfl)) | (apply H.Ag; (iterate 3 exact rfl); exact inferInstance; exact rfl) | (apply H.Af; (iterate 3 exact rfl); apply Rd1.ofRow; (repeat (first | exact .here _ _ _ | apply At.there)); (iterate 2 exact rfl)) | (first | apply H.seq | apply H.Ab | apply H.nil | apply H.Aa) | ((apply H.cmp); (iterate 5 exact rfl)) | (first | apply H.Bl | apply H.Bj | apply H.Bk | apply H.Bm) | (apply H.Aw; exact rfl; (omega)))
   refine H.Bz (by kernel_rfl) (by decide +kernel) (by repeat (first | exact zab | refine zaa ?_ | refine zac ?_ | refine zae ?_)) ?_
   repeat (first | ((first | apply HQ.Ac | apply HQ.Ar); (iterate 3 exact rfl)) | (apply HQ.Ag; (iterate 3 exact rfl); exact inferInstance; exact rfl) | (apply HQ.Af; (iterate 3 exact rfl); apply Rd1.ofRow; (repeat (first | exact .here _ _ _ | apply At.there)); (iterate 2 exact rfl)) | ((apply HQ.cmp); (iterate 5 exact rfl)) | (apply HQ.gno; (iterate 3 exact rfl); (omega)))
   refine HQ.Bs (i := j) rfl rfl rfl rfl hji rfl ?_
   repeat ((apply HQ.Ag; (iterate 3 exact rfl); exact inferInstance; exact rfl))
   refine HQ.Af rfl rfl rfl (Rd1.of (i := 1) (rd hz) rfl) rfl ?_
   repeat (first | (apply HQ.Ag; (iterate 3 exact rfl); exact inferInstance; exact rfl) | (apply HQ.Af; (iterate 3 exact rfl); apply Rd1.ofRow; (repeat (exact .here _ _ _)); (iterate 2 exact rfl)) | ((apply HQ.Bu); exact rfl) | ((apply HQ.cmp); (iterate 5 exact rfl)) | ((apply HQ.Ay); (iterate 4 exact rfl)))
   repeat ((apply H.Aa))
   by_cases hlz : z.m.number < x.m.number
   ·skip
    repeat (first | ((apply H.Ad); (iterate 3 exact rfl)) | (first | apply H.seq | apply H.Ab | apply H.nil | apply H.Aa) | (first | apply H.ret | apply H.Be) | (apply H.Au; exact rfl; (assumption)))
    refine H.Ae (x := slc _ _ _ _ _ _) (by repeat constructor) ?_
    refine H.Ae (x := row yb _ _) (by repeat constructor) ?_
    refine H.imp (zaq (_, c) hi) ?_
    refine H.Ah (x := row mb _ _) (by repeat constructor) ?_
    refine H.Aj rfl rfl (fun _ h => h) ⟨false, L, .inl ⟨rfl, rfl, fun t ht => ?_⟩, rfl, rfl, rfl⟩
    rw [ht.num htop]
    exact hlz
   ·skip
    repeat (first | ((first | apply H.Ac | apply H.Ad | apply H.Ar); (iterate 3 exact rfl)) | (apply H.Ag; (iterate 3 exact rfl); exact inferInstance; exact rfl) | (apply H.Af; (iterate 3 exact rfl); apply Rd1.ofRow; (repeat (first | exact .here _ _ _ | apply At.there)); (iterate 2 exact rfl)) | (first | apply H.seq | apply H.Ab | apply H.nil | apply H.Aa) | (apply H.Ak) | (apply H.Aw; exact rfl; (assumption)))
    have hl1 : (L.take j).length = j := by rw [List.length_take]; omega
    have hl2 : (L.drop (j + 1)).length = L.length - (j + 1) := List.length_drop
    have e1 : (L.take j ++ L.drop (j + 1)).length = j + (L.length - (j + 1)) := by rw [List.length_append, hl1, hl2]
    have e2 : (L.take j ++ L.drop (j + 1)).flatMap MV.vals = (L.flatMap MV.vals).take (j * 121) ++ (L.flatMap MV.vals).drop ((j + 1) * 121) := by
     rw [flat_take MV.len, flat_drop MV.len _ (by omega), List.flatMap_append]
    refine H.sliceTo (hv := j) rfl rfl rfl rfl (by omega) rfl ?_
    refine H.slc0 47 121 ?_
    refine H.Bv (m := j) (xs := []) rfl rfl rfl rfl rfl (fun p' c' => .here _ _ _) (Src.slcTake (.there _ (.there _ (.there _ (.here _ _ _)))) (by omega) hpl) (by rw [flat_take MV.len]; exact MVs_one _) rfl (by omega) (by omega) fun p1 c1 => ?_
    rw [Nat.zero_add, List.nil_append]
    repeat (first | ((first | apply H.Ac | apply H.Ad | apply H.Ar); (iterate 3 exact rfl)) | (apply H.Ag; (iterate 3 exact rfl); exact inferInstance; exact rfl) | (apply H.Af; (iterate 3 exact rfl); apply Rd1.ofRow; (repeat (first | exact .here _ _ _ | apply At.there)); (iterate 2 exact rfl)) | (first | apply H.seq | apply H.Ab | apply H.nil | apply H.Aa) | ((apply H.ar; (iterate 4 exact rfl)); (with_reducible apply zag; omega); exact rfl))
    refine H.slice (lo := some (.tmp 82)) (hi := none) (mx := none) (lv := j + 1) (hv := L.length) (mv := c) rfl rfl ⟨_, _, rfl, by omega⟩ rfl rfl (fun h => by cases h) (by omega) hcap (Nat.le_refl _) rfl ?_
    refine H.Bv (m := L.length - (j + 1)) (xs := (L.flatMap MV.vals).take (j * 121)) rfl rfl rfl rfl rfl (fun p' c' => .here _ _ _) (Src.slcDrop (.there _ (.there _ (.there _ (.here _ _ _)))) (by omega) hpl) (by rw [flat_drop MV.len _ (by omega)]; exact MVs_one _) rfl (by omega) (by omega) fun p3 c3 => ?_
    repeat (first | ((first | apply H.Ad | apply H.Ar); (iterate 3 exact rfl)) | (apply H.Ag; (iterate 3 exact rfl); exact inferInstance; exact rfl) | (first | apply H.seq | apply H.Ab | apply H.nil | apply H.Aa) | (apply H.Bq; (iterate 4 exact rfl); (repeat (first | exact .here _ _ _ | apply At.there))) | (apply H.ret))
    refine H.Ah (x := row mb _ _) (by repeat constructor) ?_
    refine H.Ah (x := slc (some ⟨sb, 0, none⟩) _ _ _ _ _) (by repeat constructor) ?_
    refine H.Ae (x := slc p3 _ _ _ _ _) (by repeat constructor) ?_
    refine H.Ae (x := row yb _ _) (by repeat constructor) ?_
    have hi' : RWφ fl (L.take j ++ L.drop (j + 1)) := by
     refine ⟨fun p hp => hi.1 p ?_, by rw [e1]; omega⟩
     rcases List.mem_append.1 hp with hp | hp
     ·exact List.mem_of_mem_take hp
     ·exact List.mem_of_mem_drop hp
    have hfold := zaq (yb := yb) (F := F) (p3, c3) hi'
    rw [e1, e2] at hfold
    refine H.imp hfold ?_
    refine H.Aj rfl rfl (fun _ h => h) ⟨true, L.take j ++ L.drop (j + 1), .inr ⟨rfl, by rw [e1]; omega, z.m, htop, hlz, ?_⟩, rfl, rfl, rfl⟩
    rw [List.map_append, List.map_take, List.map_drop]
    exact without_perm (MV_at hz)
end
def RPutP (f fl : Frag) (F : List HP) (yb : Nat) (L : List MV) (m : Msg) (c : Int) : Value → Frag → List HP → Prop := fun v f' A' =>
 ∃ (z : Int) (L' : List MV), PutR c (L.map MV.m) m z (L'.map MV.m) ∧ L'.length ≤ L.length + 1 ∧ v = .int .i64 z ∧ f' = f ∧ A' = waitR fl yb L' :: F
theorem cntO_top : ∀ (ws : List Msg) (o : Int), 0 < cntO ws o → ∃ t, Top ws o t
 | [], o, h => absurd h (Nat.lt_irrefl 0)
 | y :: r, o, h => by
  by_cases hy : y.origin = o
  ·by_cases h0 : 0 < cntO r o
   ·obtain ⟨t, ht⟩ := cntO_top r o h0
    by_cases hl : t.number < y.number
    ·refine ⟨y, by simp, hy, fun z hz hzo => ?_⟩
     rcases List.mem_cons.1 hz with e | e
     ·rw [e]; exact Int.le_refl _
     ·have := ht.max z e hzo; omega
    ·refine ⟨t, List.mem_cons_of_mem _ ht.mem, ht.org, fun z hz hzo => ?_⟩
     rcases List.mem_cons.1 hz with e | e
     ·rw [e]; omega
     ·exact ht.max z e hzo
   ·refine ⟨y, by simp, hy, fun z hz hzo => ?_⟩
    rcases List.mem_cons.1 hz with e | e
    ·rw [e]; exact Int.le_refl _
    ·have : 0 < cntO r o := by
      unfold cntO
      exact List.length_pos_of_mem (List.mem_filter.2 ⟨e, decide_eq_true hzo⟩)
     omega
  ·have h1 := cntO_cons y r o
   rw [if_neg hy] at h1
   obtain ⟨t, ht⟩ := cntO_top r o (by omega)
   refine ⟨t, List.mem_cons_of_mem _ ht.mem, ht.org, fun z hz hzo => ?_⟩
   rcases List.mem_cons.1 hz with e | e
   ·exact absurd (e ▸ hzo) hy
   ·exact ht.max z e hzo
section
variable (f : Frag) (F : List HP)
set_option maxRecDepth 20000 in
set_option maxHeartbeats 3200000 in
theorem rwput_fn {fl fr : Frag} (hfl : Le fl f) (hfr : Le fr f) {yb rb n : Nat} {L l : List MV} {x : MV} (hx : x.Good fl) (hpos : Pos x.m) (hlen : L.length < 100000) :
  Fn Tryz.prog 40 [.pointer (some ⟨yb, 0, none⟩), .pointer (some ⟨rb, 0, none⟩), .agg x.vals.toArray] f (waitR fl yb L :: refL fr rb n l :: F) (RPutP f fl (refL fr rb n l :: F) yb L x.m (chk n (strm (l.map MV.m)) x.m)) := by
 have hck : ∀ G, Fn Tryz.prog 62 [.pointer (some ⟨rb, 0, none⟩), .agg x.vals.toArray] f (refL fr rb n l :: G) (Ret (.int .i64 (chk n (strm (l.map MV.m)) x.m)) f (refL fr rb n l :: G)) := fun G => rlcheck_fn f G hfr (hx.mono hfl) hpos
 generalize chk n (strm (l.map MV.m)) x.m = ck at *
 cases ho : openZ ck with
 | false =>
  have h0 : ¬ ck = 0 := fun e => by rw [zbg.2 (.inl e)] at ho; cases ho
  have h12 : ¬ ck = 12 := fun e => by rw [zbg.2 (.inr e)] at ho; cases ho
  refine Fn.enter Tryz.func40 rfl Tryz.ntmps40 rfl (L := [(0, _), (1, _), (2, _)]) ⟨rfl, rfl, rfl, trivial⟩ fun base => ?_
  repeat ((first | apply H.seq | apply H.Ab))
  refine H.box (ls := x.vals) rfl rfl rfl rfl fun mb => ?_
  repeat (first | ((first | apply H.Ac | apply H.Ad); (iterate 3 exact rfl)) | (first | apply H.seq | apply H.Ab | apply H.nil | apply H.Aa))
  refine H.Al (ls := x.vals) rfl rfl rfl (Rd.ofRow (.here _ _ _)) rfl rfl ?_
  refine H.Ae (x := refL _ _ _ _) (by repeat constructor) ?_
  refine H.Am rfl rfl rfl (hck _) ?_
  repeat (first | ((first | apply H.Ac | apply H.Ad); (iterate 3 exact rfl)) | (first | apply H.seq | apply H.Ab | apply H.nil | apply H.Aa) | ((apply H.cmp); (iterate 5 exact rfl)) | (apply H.Ax; (iterate 4 exact rfl)) | (first | apply H.ret | apply H.Be) | (apply H.Bi; (iterate 3 exact rfl); (assumption)) | (apply H.Au; exact rfl; (assumption)))
  refine H.Ah (x := row mb _ _) (by repeat constructor) ?_
  refine H.Ae (x := waitR _ _ _) (by repeat constructor) ?_
  exact H.Aj rfl rfl (fun _ h => h) ⟨ck, L, .shut ho _ (List.Perm.refl _), by omega, rfl, rfl, rfl⟩
 | true =>
  refine Fn.enter Tryz.func40 rfl Tryz.ntmps40 rfl (L := [(0, _), (1, _), (2, _)]) ⟨rfl, rfl, rfl, trivial⟩ fun base => ?_
  repeat ((first | apply H.seq | apply H.Ab))
  refine H.box (ls := x.vals) rfl rfl rfl rfl fun mb => ?_
  repeat (first | ((first | apply H.Ac | apply H.Ad); (iterate 3 exact rfl)) | (first | apply H.seq | apply H.Ab | apply H.nil | apply H.Aa))
  refine H.Al (ls := x.vals) rfl rfl rfl (Rd.ofRow (.here _ _ _)) rfl rfl ?_
  refine H.Ae (x := refL _ _ _ _) (by repeat constructor) ?_
  refine H.Am rfl rfl rfl (hck _) ?_
  (apply H.Ad; (iterate 3 exact rfl))
  refine H.nil ?_
  refine H.Aa ?_
  refine H.seq ?_
  refine H.Ae (x := waitR _ _ _) (by repeat constructor) ?_
  refine H.Ae (x := row mb _ _) (by repeat constructor) ?_
  refine H.cut (ι := Unit) (fun _ => [(18, .bool false), (0, .pointer (some ⟨yb, 0, none⟩)), (5, .pointer (some ⟨mb, 0, none⟩))]) (fun _ => f) (fun _ => row mb 47 x.vals :: waitR fl yb L :: refL fr rb n l :: F) (fun _ => True) _ (fun _ _ => ?_) ?_
  ·clear hck
   refine H.Ae (x := waitR _ _ _) (by repeat constructor) ?_
   refine H.unpack fun i0 hi => ?_
   obtain ⟨p, c⟩ := i0
   repeat (first | ((apply H.Ad); (iterate 3 exact rfl)) | (first | apply H.seq | apply H.Ab | apply H.nil | apply H.Aa) | (apply H.Ao))
   refine H.Ae (x := slc _ _ _ _ _ _) (by repeat constructor) ?_
   refine H.Ae (x := row yb _ _) (by repeat constructor) ?_
   refine H.Ae (x := row mb _ _) (by repeat constructor) ?_
   refine H.Bo (ι := Nat × Nat) (fun s => [(9, .int .i64 (s.1 : Int)), (8, .int .i64 (s.2 : Int)), (0, .pointer (some ⟨yb, 0, none⟩)), (5, .pointer (some ⟨mb, 0, none⟩))]) (fun _ => f)
    (fun _ => row mb 47 x.vals :: row yb 76 [.slice p L.length c] :: slc p L.length c 47 121 (L.flatMap MV.vals) :: refL fr rb n l :: F)
    (fun s => s.1 ≤ L.length ∧ s.2 = cntO ((L.map MV.m).take s.1) x.m.origin ∧ ∀ y ∈ (L.map MV.m).take s.1, keyM y ≠ keyM x.m) (fun s => L.length - s.1) (0, 0) ⟨Nat.zero_le _, rfl, fun y hy => (by simp at hy)⟩ ⟨rfl, rfl, rfl, rfl, trivial⟩ rfl rfl fun s hs => ?_
   obtain ⟨i, k⟩ := s
   obtain ⟨hiL, hk, hno⟩ : i ≤ L.length ∧ k = cntO ((L.map MV.m).take i) x.m.origin ∧ ∀ y ∈ (L.map MV.m).take i, keyM y ≠ keyM x.m := hs
   have hkl : k ≤ 100000 := by
    rw [hk]
    refine Nat.le_trans (List.length_filter_le _ _) ?_
    rw [List.length_take, List.length_map]
    omega
   show H _ _ _ [(9, .int .i64 (i : Int)), (8, .int .i64 (k : Int)), _, _] f (_ :: _ :: _ :: refL fr rb n l :: F) _
   by_cases hlt : i < L.length
   ·obtain ⟨y, hy⟩ : ∃ y, L[i]? = some y := ⟨_, List.getElem?_eq_getElem hlt⟩
    have hym := MV_at hy
    have hcn := cntO_take (o := x.m.origin) hym
    refine H.Cf (p := p) (n0 := L.length) (c := c) (.there _ (.there _ (.here _ _ _))) (by omega) fun sb hp => ?_
    subst hp
    have rd : ∀ {k : Nat} {z : MV}, L[k]? = some z → Rd f (row mb 47 x.vals :: row yb 76 [.slice (some ⟨sb, 0, none⟩) L.length c] :: slc (some ⟨sb, 0, none⟩) L.length c 47 121 (L.flatMap MV.vals) :: refL fr rb n l :: F) sb (0 + k * 121) z.vals := fun {k z} h => by
     rw [Nat.zero_add]; exact Rd.slcElem MV.len (by decide) (.there _ (.there _ (.here _ _ _))) h
    repeat (first | ((first | apply H.Ac | apply H.Ar | apply H.Az); (iterate 3 exact rfl)) | (apply H.Ag; (iterate 3 exact rfl); exact inferInstance; exact rfl) | (apply H.Af; (iterate 3 exact rfl); apply Rd1.ofRow; (repeat (first | exact .here _ _ _ | apply At.there)); (iterate 2 exact rfl)) | (first | apply H.seq | apply H.Ab | apply H.nil | apply H.Aa) | ((apply H.cmp); (iterate 5 exact rfl)) | (first | apply H.Ak | apply H.Ao) | (apply H.Au; exact rfl; (omega)))
    refine H.Bz (by kernel_rfl) (by decide +kernel) (by repeat (first | exact zab | refine zaa ?_ | refine zac ?_ | refine zae ?_)) ?_
    repeat (first | ((first | apply HQ.Ac | apply HQ.Ar); (iterate 3 exact rfl)) | (apply HQ.Ag; (iterate 3 exact rfl); exact inferInstance; exact rfl) | (apply HQ.Af; (iterate 3 exact rfl); apply Rd1.ofRow; (repeat (first | exact .here _ _ _ | apply At.there)); (iterate 2 exact rfl)))
    refine HQ.Bs (i := i) rfl rfl rfl rfl hlt rfl ?_
    repeat ((apply HQ.Ag; (iterate 3 exact rfl); exact inferInstance; exact rfl))
    refine HQ.Af rfl rfl rfl (Rd1.of (i := 0) (rd hy) rfl) rfl ?_
    repeat (first | (apply HQ.Ag; (iterate 3 exact rfl); exact inferInstance; exact rfl) | (apply HQ.Af; (iterate 3 exact rfl); apply Rd1.ofRow; (repeat (exact .here _ _ _)); (iterate 2 exact rfl)) | ((apply HQ.Bu); exact rfl) | ((apply HQ.cmp); (iterate 5 exact rfl)))
    by_cases hoo : y.m.origin = x.m.origin
    ·rw [if_pos hoo] at hcn
     repeat (first | ((first | apply H.Ac | apply H.Ad); (iterate 3 exact rfl)) | (first | apply H.seq | apply H.Ab | apply H.nil | apply H.Aa) | ((apply H.ar; (iterate 4 exact rfl)); (with_reducible apply zag; omega); exact rfl) | (apply H.Au; exact rfl; (assumption)))
     refine H.Bz (by kernel_rfl) (by decide +kernel) (by repeat (first | exact zab | refine zaa ?_ | refine zac ?_ | refine zae ?_)) ?_
     repeat (first | ((first | apply HQ.Ac | apply HQ.Ar); (iterate 3 exact rfl)) | (apply HQ.Ag; (iterate 3 exact rfl); exact inferInstance; exact rfl) | (apply HQ.Af; (iterate 3 exact rfl); apply Rd1.ofRow; (repeat (first | exact .here _ _ _ | apply At.there)); (iterate 2 exact rfl)))
     refine HQ.Bs (i := i) rfl rfl rfl rfl hlt rfl ?_
     repeat ((apply HQ.Ag; (iterate 3 exact rfl); exact inferInstance; exact rfl))
     refine HQ.Af rfl rfl rfl (Rd1.of (i := 1) (rd hy) rfl) rfl ?_
     repeat (first | (apply HQ.Ag; (iterate 3 exact rfl); exact inferInstance; exact rfl) | (apply HQ.Af; (iterate 3 exact rfl); apply Rd1.ofRow; (repeat (exact .here _ _ _)); (iterate 2 exact rfl)) | ((apply HQ.Bu); exact rfl) | ((apply HQ.cmp); (iterate 5 exact rfl)))
     by_cases hnn : y.m.number = x.m.number
     ·clear hcn
      repeat (first | ((apply H.Ad); (iterate 3 exact rfl)) | (first | apply H.seq | apply H.Ab | apply H.nil | apply H.Aa) | (first | apply H.ret | apply H.Be | apply H.Bx | apply H.Cd) | (apply H.Au; exact rfl; (assumption)))
      refine H.Ae (x := slc _ _ _ _ _ _) (by repeat constructor) ?_
      refine H.Ae (x := row yb _ _) (by repeat constructor) ?_
      refine H.imp (zaq (_, c) hi) ?_
      refine H.Ah (x := row mb _ _) (by repeat constructor) ?_
      exact H.Aj rfl rfl (fun _ h => h) ⟨13, L, .again ho y.m (List.mem_of_getElem? hym) (by show (y.m.origin, y.m.number) = (x.m.origin, x.m.number); rw [hoo, hnn]) _ (List.Perm.refl _), by omega, rfl, rfl, rfl⟩
     ·skip
      repeat (first | ((first | apply H.Ac | apply H.Ad); (iterate 3 exact rfl)) | (first | apply H.Ab | apply H.nil | apply H.Aa) | ((apply H.ar; (iterate 4 exact rfl)); (with_reducible apply zag; omega); exact rfl) | (first | apply H.Ak | apply H.Ba) | (apply H.Aw; exact rfl; (assumption)))
      refine H.Bc (i + 1, k + 1) ⟨by show i + 1 ≤ L.length; omega, by rw [hcn, ← hk], fun w hw => ?_⟩ (by show L.length - (i + 1) < L.length - i; omega) ⟨rfl, rfl, rfl, rfl, trivial⟩ rfl rfl
      rcases zbd hym hw with h1 | h1
      ·exact hno w h1
      ·rw [h1]; exact fun e => hnn (congrArg (·.2) e)
    ·rw [if_neg hoo] at hcn
     repeat (first | ((first | apply H.Ac | apply H.Ad); (iterate 3 exact rfl)) | (first | apply H.Ab | apply H.nil | apply H.Aa) | ((apply H.ar; (iterate 4 exact rfl)); (with_reducible apply zag; omega); exact rfl) | (first | apply H.Ak | apply H.Ba) | (apply H.Aw; exact rfl; (assumption)))
     refine H.Bc (i + 1, k) ⟨by show i + 1 ≤ L.length; omega, by rw [hcn, ← hk]; rfl, fun w hw => ?_⟩ (by show L.length - (i + 1) < L.length - i; omega) ⟨rfl, rfl, rfl, rfl, trivial⟩ rfl rfl
     rcases zbd hym hw with h1 | h1
     ·exact hno w h1
     ·rw [h1]; exact fun e => hoo (congrArg (·.1) e)
   ·have e : i = L.length := by omega
    subst e
    have etk : (L.map MV.m).take L.length = L.map MV.m := List.take_of_length_le (by rw [List.length_map]; exact Nat.le_refl _)
    rw [etk] at hk hno
    clear etk
    by_cases hc : 11 ≤ k
    ·skip
     repeat (first | ((first | apply H.Ac | apply H.Ar | apply H.Az); (iterate 3 exact rfl)) | (apply H.Ag; (iterate 3 exact rfl); exact inferInstance; exact rfl) | (apply H.Af; (iterate 3 exact rfl); apply Rd1.ofRow; (repeat (first | exact .here _ _ _ | apply At.there)); (iterate 2 exact rfl)) | (first | apply H.seq | apply H.Ab | apply H.nil | apply H.Aa) | ((apply H.cmp); (iterate 5 exact rfl)) | (first | apply H.Bl | apply H.Bj | apply H.Bk | apply H.Bm) | (apply H.Bi; (iterate 3 exact rfl); (omega)) | (apply H.Aw; exact rfl; (omega)))
     refine H.Al (ls := x.vals) rfl rfl rfl (Rd.ofRow (.here _ _ _)) rfl rfl ?_
     refine H.Ae (x := slc _ _ _ _ _ _) (by repeat constructor) ?_
     refine H.Ae (x := row yb _ _) (by repeat constructor) ?_
     refine H.imp (zaq (p, c) hi) ?_
     refine H.call rfl rfl rfl (rroom_fn f _) fun v f' A' hr => ?_
     obtain ⟨b, Lq, hR0, rfl, hff, rfl⟩ := hr
     rw [hff]
     rcases hR0 with ⟨rfl, rfl, hlow⟩ | ⟨rfl, hql, t, ht, hl, hp⟩
     ·obtain ⟨t, ht⟩ := cntO_top (Lq.map MV.m) x.m.origin (by omega)
      repeat (first | ((apply H.Ad); (iterate 3 exact rfl)) | (first | apply H.seq | apply H.Ab | apply H.nil | apply H.Aa) | (apply H.Ax; (iterate 4 exact rfl)) | ((apply H.not); (iterate 4 exact rfl)) | (apply H.Bh; exact rfl) | (first | apply H.ret | apply H.Be))
      refine H.Ah (x := row mb _ _) (by repeat constructor) ?_
      exact H.Aj rfl rfl (fun _ h => h) ⟨7, Lq, .full ho hno (by omega) t ht (hlow t ht) _ (List.Perm.refl _), by omega, rfl, rfl, rfl⟩
     ·have hR : PutR ck (L.map MV.m) x.m 0 ((Lq ++ [x]).map MV.m) := by
       rw [List.map_append]
       exact .swap ho hno (by omega) t ht hl _ (hp.append_right [x.m])
      clear hi
      refine H.unpack fun i1 hi => ?_
      obtain ⟨p, c⟩ := i1
      repeat (first | (first | apply H.seq | apply H.nil | apply H.Aa) | (apply H.Ax; (iterate 4 exact rfl)) | ((apply H.not); (iterate 4 exact rfl)) | (apply H.Av; exact rfl) | (apply H.Ak))
      refine H.Ae (x := row yb _ _) (by repeat constructor) ?_
      refine H.Ae (x := row mb _ _) (by repeat constructor) ?_
      refine H.Ch [0, 1, 2, 3, 4, 5, 6, 7] (by kernel_rfl) (by decide +kernel) (by repeat (first | exact zab | refine zaa ?_ | refine zac ?_ | refine zae ?_)) (S := [_, _]) rfl ?_
      refine HB.Aq [(0, false), (1, false), (2, false), (3, false), (4, false), (5, false)] 5 (by kernel_rfl) ?_
      repeat (first | ((first | apply HQ.Ac | apply HQ.Ar); (iterate 3 exact rfl)) | (apply HQ.Ag; (iterate 3 exact rfl); exact inferInstance; exact rfl) | (apply HQ.Af; (iterate 3 exact rfl); apply Rd1.ofRow; (repeat (first | exact .here _ _ _ | apply At.there)); (iterate 2 exact rfl)))
      refine HQ.Al (ls := x.vals) rfl rfl rfl (Rd.ofRow (.here _ _ _)) rfl rfl ?_
      refine HQ.Ap rfl ?_
      refine HB.ev1 (i := 6) (by kernel_rfl) rfl ?_
      refine H.Bw (out := x.vals) rfl rfl rfl rfl (by decide) (by decide) rfl rfl fun eb => ?_
      repeat ((apply H.nil))
      refine H.Ae (x := row yb _ _) (by repeat constructor) ?_
      refine H.Ae (x := row mb _ _) (by repeat constructor) ?_
      refine H.on0 rfl ?_
      refine HB.ev1 (i := 7) (by kernel_rfl) rfl ?_
      refine H.Bv (p := p) (n0 := Lq.length) (c := c) (xs := Lq.flatMap MV.vals) (m := 1) (news := x.vals) rfl rfl rfl rfl rfl (fun p' c' => (by repeat constructor)) (Src.slice (Rd.ofRow (by repeat constructor)) rfl) (zad rfl) rfl (by omega) (by omega) fun p2 c2 => ?_
      repeat ((apply H.nil))
      refine H.Ah (x := row eb _ _) (by repeat constructor) ?_
      refine H.on0 rfl ?_
      refine HB.next [] (by kernel_rfl) (S' := []) rfl ?_
      refine HB.Aq [(8, false), (9, false)] 1 (by kernel_rfl) ?_
      repeat (first | ((apply HQ.Ar); (iterate 3 exact rfl)) | (apply HQ.Ag; (iterate 3 exact rfl); exact inferInstance; exact rfl))
      refine HQ.Ap rfl ?_
      refine HB.ev1 (i := 10) (by kernel_rfl) rfl ?_
      refine H.Bq (ls := [.slice p Lq.length c]) (ls' := [.slice p2 (Lq.length + 1) c2]) rfl rfl rfl rfl (.there _ (.here _ _ _)) (.here _ _ _) ?_
      repeat ((apply H.nil))
      refine H.on0 rfl ?_
      refine HB.Bf (by kernel_rfl) ?_
      repeat (first | ((apply H.Ad); (iterate 3 exact rfl)) | (first | apply H.seq | apply H.Ab | apply H.nil | apply H.Aa) | (apply H.ret))
      refine H.Ah (x := row mb _ _) (by repeat constructor) ?_
      refine H.Ae (x := slc p2 _ c2 _ _ _) (by repeat constructor) ?_
      refine H.Ae (x := row yb _ _) (by repeat constructor) ?_
      have hφ : RWφ fl (Lq ++ [x]) := ⟨fun y hy => by
       rcases List.mem_append.1 hy with h | h
       ·exact hi.1 y h
       ·rw [List.mem_singleton.1 h]; exact ⟨hx, hpos⟩, by rw [List.length_append]; show Lq.length + 1 ≤ _; omega⟩
      have e2 : slc p2 (Lq.length + 1) c2 47 121 (Lq.flatMap MV.vals ++ x.vals) = slc p2 (Lq ++ [x]).length c2 47 121 ((Lq ++ [x]).flatMap MV.vals) := slc_snoc
      have e1 : (Lq ++ [x]).length = Lq.length + 1 := by rw [List.length_append]; rfl
      have hfold := zaq (yb := yb) (F := refL fr rb n l :: F) (p2, c2) hφ
      rw [← e2, e1] at hfold
      refine H.imp hfold ?_
      exact H.Aj rfl rfl (fun _ h => h) ⟨0, Lq ++ [x], hR, by rw [e1]; omega, rfl, rfl, rfl⟩
    ·have hR : PutR ck (L.map MV.m) x.m 0 ((L ++ [x]).map MV.m) := by
      rw [List.map_append]
      exact .room ho hno (by omega) _ (List.Perm.refl _)
     obtain ⟨Lq, rfl⟩ : ∃ Lq, Lq = L := ⟨L, rfl⟩
     repeat (first | ((first | apply H.Ac | apply H.Ar | apply H.Az); (iterate 3 exact rfl)) | (apply H.Ag; (iterate 3 exact rfl); exact inferInstance; exact rfl) | (apply H.Af; (iterate 3 exact rfl); apply Rd1.ofRow; (repeat (first | exact .here _ _ _ | apply At.there)); (iterate 2 exact rfl)) | (first | apply H.seq | apply H.Ab | apply H.nil | apply H.Aa) | ((apply H.cmp); (iterate 5 exact rfl)) | (apply H.Bd; (iterate 2 exact rfl)) | ((apply H.Ay); (iterate 4 exact rfl)) | (apply H.Av; exact rfl) | (first | apply H.Ak | apply H.Bl | apply H.Bj | apply H.Bk | apply H.Bm) | (apply H.gno; (iterate 3 exact rfl); (omega)) | (apply H.Aw; exact rfl; (omega)))
     refine H.Ae (x := row yb _ _) (by repeat constructor) ?_
     refine H.Ae (x := row mb _ _) (by repeat constructor) ?_
     refine H.Ch [0, 1, 2, 3, 4, 5, 6, 7] (by kernel_rfl) (by decide +kernel) (by repeat (first | exact zab | refine zaa ?_ | refine zac ?_ | refine zae ?_)) (S := [_, _]) rfl ?_
     refine HB.Aq [(0, false), (1, false), (2, false), (3, false), (4, false), (5, false)] 5 (by kernel_rfl) ?_
     repeat (first | ((first | apply HQ.Ac | apply HQ.Ar); (iterate 3 exact rfl)) | (apply HQ.Ag; (iterate 3 exact rfl); exact inferInstance; exact rfl) | (apply HQ.Af; (iterate 3 exact rfl); apply Rd1.ofRow; (repeat (first | exact .here _ _ _ | apply At.there)); (iterate 2 exact rfl)))
     refine HQ.Al (ls := x.vals) rfl rfl rfl (Rd.ofRow (.here _ _ _)) rfl rfl ?_
     refine HQ.Ap rfl ?_
     refine HB.ev1 (i := 6) (by kernel_rfl) rfl ?_
     refine H.Bw (out := x.vals) rfl rfl rfl rfl (by decide) (by decide) rfl rfl fun eb => ?_
     repeat ((apply H.nil))
     refine H.Ae (x := row yb _ _) (by repeat constructor) ?_
     refine H.Ae (x := row mb _ _) (by repeat constructor) ?_
     refine H.on0 rfl ?_
     refine HB.ev1 (i := 7) (by kernel_rfl) rfl ?_
     refine H.Bv (p := p) (n0 := Lq.length) (c := c) (xs := Lq.flatMap MV.vals) (m := 1) (news := x.vals) rfl rfl rfl rfl rfl (fun p' c' => (by repeat constructor)) (Src.slice (Rd.ofRow (by repeat constructor)) rfl) (zad rfl) rfl (by omega) (by omega) fun p2 c2 => ?_
     repeat ((apply H.nil))
     refine H.Ah (x := row eb _ _) (by repeat constructor) ?_
     refine H.on0 rfl ?_
     refine HB.next [] (by kernel_rfl) (S' := []) rfl ?_
     refine HB.Aq [(8, false), (9, false)] 1 (by kernel_rfl) ?_
     repeat (first | ((apply HQ.Ar); (iterate 3 exact rfl)) | (apply HQ.Ag; (iterate 3 exact rfl); exact inferInstance; exact rfl))
     refine HQ.Ap rfl ?_
     refine HB.ev1 (i := 10) (by kernel_rfl) rfl ?_
     refine H.Bq (ls := [.slice p Lq.length c]) (ls' := [.slice p2 (Lq.length + 1) c2]) rfl rfl rfl rfl (.there _ (.here _ _ _)) (.here _ _ _) ?_
     repeat ((apply H.nil))
     refine H.on0 rfl ?_
     refine HB.Bf (by kernel_rfl) ?_
     repeat (first | ((apply H.Ad); (iterate 3 exact rfl)) | (first | apply H.seq | apply H.Ab | apply H.nil | apply H.Aa) | (apply H.ret))
     refine H.Ah (x := row mb _ _) (by repeat constructor) ?_
     refine H.Ae (x := slc p2 _ c2 _ _ _) (by repeat constructor) ?_
     refine H.Ae (x := row yb _ _) (by repeat constructor) ?_
     have hφ : RWφ fl (Lq ++ [x]) := ⟨fun y hy => by
      rcases List.mem_append.1 hy with h | h
      ·exact hi.1 y h
      ·rw [List.mem_singleton.1 h]; exact ⟨hx, hpos⟩, by rw [List.length_append]; show Lq.length + 1 ≤ _; omega⟩
     have e2 : slc p2 (Lq.length + 1) c2 47 121 (Lq.flatMap MV.vals ++ x.vals) = slc p2 (Lq ++ [x]).length c2 47 121 ((Lq ++ [x]).flatMap MV.vals) := slc_snoc
     have e1 : (Lq ++ [x]).length = Lq.length + 1 := by rw [List.length_append]; rfl
     have hfold := zaq (yb := yb) (F := refL fr rb n l :: F) (p2, c2) hφ
     rw [← e2, e1] at hfold
     refine H.imp hfold ?_
     exact H.Aj rfl rfl (fun _ h => h) ⟨0, Lq ++ [x], hR, by rw [e1]; omega, rfl, rfl, rfl⟩
  ·rcases zbg.1 ho with h0 | h0
   ·subst h0
    repeat (first | ((apply H.Ac); (iterate 3 exact rfl)) | (first | apply H.seq | apply H.Ab | apply H.nil | apply H.Aa) | ((apply H.cmp); (iterate 5 exact rfl)) | (apply H.Bd; (iterate 2 exact rfl)) | ((apply H.Ay); (iterate 4 exact rfl)) | (apply H.Av; exact rfl) | (apply H.Ak))
    exact H.meet () trivial ⟨rfl, rfl, rfl, trivial⟩ rfl rfl
   ·subst h0
    repeat (first | ((apply H.Ac); (iterate 3 exact rfl)) | (first | apply H.seq | apply H.Ab | apply H.nil | apply H.Aa) | ((apply H.cmp); (iterate 5 exact rfl)) | (apply H.Ax; (iterate 4 exact rfl)) | (apply H.Av; exact rfl) | (apply H.Ak))
    exact H.meet () trivial ⟨rfl, rfl, rfl, trivial⟩ rfl rfl
end
def RNextP (f fl : Frag) (F : List HP) (yb : Nat) (L : List MV) (cf : Msg → Int) : Value → Frag → List HP → Prop := fun v f' A' =>
 ∃ (r : Option Msg) (y : MV) (L' : List MV), NextR cf (L.map MV.m) r (L'.map MV.m) ∧ y.m = r.getD msgZ ∧ y.Good f ∧ (r.isSome = true → Pos y.m ∧ y.Good fl) ∧ L'.length ≤ L.length ∧ v = .tuple #[.agg y.vals.toArray, .bool r.isSome] ∧ f' = f ∧ A' = waitR fl yb L' :: F
theorem LeastAt.get {cf : Msg → Int} {ws : List Msg} {i j : Nat} (h : LeastAt cf ws i (some j)) : j < i ∧ ∃ t, ws[j]? = some t := ⟨h.1, h.2.elim fun t ht => ⟨t, ht.1⟩⟩
section
variable (f : Frag) (F : List HP)
set_option maxRecDepth 20000 in
set_option maxHeartbeats 3200000 in
theorem rwnext_fn {fl fr : Frag} (hfl : Le fl f) (hfr : Le fr f) {yb rb n : Nat} {L l : List MV} :
  Fn Tryz.prog 38 [.pointer (some ⟨yb, 0, none⟩), .pointer (some ⟨rb, 0, none⟩)] f (waitR fl yb L :: refL fr rb n l :: F) (RNextP f fl (refL fr rb n l :: F) yb L (fun m => chk n (strm (l.map MV.m)) m)) := by
 obtain ⟨cf, hcf⟩ : ∃ cf : Msg → Int, cf = fun m => chk n (strm (l.map MV.m)) m := ⟨_, rfl⟩
 have hck0 : ∀ (y : MV) G, y.Good f → Pos y.m → Fn Tryz.prog 62 [.pointer (some ⟨rb, 0, none⟩), .agg y.vals.toArray] f (refL fr rb n l :: G) (Ret (.int .i64 (cf y.m)) f (refL fr rb n l :: G)) := fun y G h1 h2 => by
  rw [hcf]; exact rlcheck_fn f G hfr h1 h2
 rw [← hcf]
 clear hcf
 refine Fn.unpack fun i0 hi => ?_
 obtain ⟨p, c⟩ := i0
 have hll := hi.2
 refine Fn.enter Tryz.func38 rfl Tryz.ntmps38 rfl (L := [(0, _), (1, _)]) ⟨rfl, rfl, trivial⟩ fun base => ?_
 repeat ((first | apply H.seq | apply H.Ab))
 refine H.Bg (ls := msgZ.vals none 0) rfl rfl rfl fun ob => ?_
 repeat (first | ((apply H.Ad); (iterate 3 exact rfl)) | (first | apply H.seq | apply H.Ab | apply H.nil | apply H.Aa) | (apply H.Ao))
 refine H.slc0 47 121 ?_
 refine H.Ae (x := row ob _ _) (by repeat constructor) ?_
 refine H.Bo (ι := Nat × List MV × Option Addr × Nat) (fun s => [(7, .int .i64 (s.1 : Int)), (6, .slice s.2.2.1 s.2.1.length s.2.2.2), (0, .pointer (some ⟨yb, 0, none⟩)), (1, .pointer (some ⟨rb, 0, none⟩)), (4, .pointer (some ⟨ob, 0, none⟩))]) (fun _ => f)
  (fun s => row ob 47 (msgZ.vals none 0) :: slc s.2.2.1 s.2.1.length s.2.2.2 47 121 (s.2.1.flatMap MV.vals) :: row yb 76 [.slice p L.length c] :: slc p L.length c 47 121 (L.flatMap MV.vals) :: refL fr rb n l :: F)
  (fun s => s.1 ≤ L.length ∧ s.2.1.map MV.m = ((L.map MV.m).take s.1).filter (fun x => openZ (cf x)) ∧ ∀ y ∈ s.2.1, y ∈ L) (fun s => L.length - s.1)
  (0, [], none, 0) ⟨Nat.zero_le _, rfl, (fun y hy => by cases hy)⟩ ⟨rfl, rfl, rfl, rfl, rfl, trivial⟩ rfl rfl fun s hs => ?_
 obtain ⟨i, W, lp, lc⟩ := s
 obtain ⟨hiL, hW, hWL⟩ : i ≤ L.length ∧ W.map MV.m = ((L.map MV.m).take i).filter (fun x => openZ (cf x)) ∧ ∀ y ∈ W, y ∈ L := hs
 have hWl : W.length ≤ i := by
  have h1 := congrArg List.length hW
  rw [List.length_map] at h1
  rw [h1]
  refine Nat.le_trans (List.length_filter_le _ _) ?_
  rw [List.length_take]
  omega
 show H _ _ _ [(7, .int .i64 (i : Int)), (6, .slice lp W.length lc), _, _, _] f (_ :: slc lp W.length lc _ 121 (W.flatMap MV.vals) :: _ :: _ :: _ :: F) _
 by_cases hlt : i < L.length
 ·obtain ⟨y, hy⟩ : ∃ y, L[i]? = some y := ⟨_, List.getElem?_eq_getElem hlt⟩
  have hym := MV_at hy
  have hyi := hi.1 y (List.mem_of_getElem? hy)
  have hfil := filter_take (p := fun x => openZ (cf x)) hym
  have hck := fun G => hck0 y G (hyi.1.mono hfl) hyi.2
  refine H.Cf (p := p) (n0 := L.length) (c := c) (.there _ (.there _ (.there _ (.here _ _ _)))) (by omega) fun sb hp => ?_
  subst hp
  have rd : ∀ {k : Nat} {z : MV}, L[k]? = some z → Rd f (row ob 47 (msgZ.vals none 0) :: slc lp W.length lc 47 121 (W.flatMap MV.vals) :: row yb 76 [.slice (some ⟨sb, 0, none⟩) L.length c] :: slc (some ⟨sb, 0, none⟩) L.length c 47 121 (L.flatMap MV.vals) :: refL fr rb n l :: F) sb (0 + k * 121) z.vals := fun {k z} h => by
   rw [Nat.zero_add]; exact Rd.slcElem MV.len (by decide) (.there _ (.there _ (.there _ (.here _ _ _)))) h
  generalize hz0 : cf y.m = z0 at hck
  by_cases hop : openZ (cf y.m) = true
  ·have h3 : z0 = 0 ∨ z0 = 12 := by rw [← hz0]; exact zbg.1 hop
   rcases h3 with h3 | h3 <;> subst h3 <;> (
    repeat (first | ((first | apply H.Ac | apply H.Ar | apply H.Az); (iterate 3 exact rfl)) | (apply H.Ag; (iterate 3 exact rfl); exact inferInstance; exact rfl) | (apply H.Af; (iterate 3 exact rfl); apply Rd1.ofRow; (repeat (first | exact .here _ _ _ | apply At.there)); (iterate 2 exact rfl)) | (first | apply H.seq | apply H.Ab | apply H.nil | apply H.Aa) | ((apply H.cmp); (iterate 5 exact rfl)) | (first | apply H.Ak | apply H.Ao) | (apply H.Au; exact rfl; (omega)))
    refine H.Bs (i := i) rfl rfl rfl rfl hlt rfl ?_
    refine H.Al (ls := y.vals) rfl rfl rfl (rd hy) rfl rfl ?_
    refine H.Ae (x := refL _ _ _ _) (by repeat constructor) ?_
    refine H.Am rfl rfl rfl (hck _) ?_
    repeat (first | ((first | apply H.Ac | apply H.Ad | apply H.Ar); (iterate 3 exact rfl)) | (apply H.Ag; (iterate 3 exact rfl); exact inferInstance; exact rfl) | (apply H.Af; (iterate 3 exact rfl); apply Rd1.ofRow; (repeat (first | exact .here _ _ _ | apply At.there)); (iterate 2 exact rfl)) | (first | apply H.seq | apply H.Ab | apply H.nil | apply H.Aa) | ((apply H.cmp); (iterate 5 exact rfl)) | (apply H.Bd; (iterate 2 exact rfl)) | (apply H.Ax; (iterate 4 exact rfl)) | ((apply H.Ay); (iterate 4 exact rfl)) | (apply H.Bh; exact rfl))
    refine H.Bs (i := i) rfl rfl rfl rfl hlt rfl ?_
    refine H.Ae (x := slc (some ⟨sb, 0, none⟩) L.length c _ _ _) (by repeat constructor) ?_
    refine H.Al (ls := y.vals) rfl rfl rfl (by rw [Nat.zero_add]; exact Rd.slcElem MV.len (by decide) (.here _ _ _) hy) rfl rfl ?_
    refine H.Bw (out := y.vals) rfl rfl rfl rfl (by decide) (by decide) rfl rfl fun eb => ?_
    refine H.Bv (p := lp) (n0 := W.length) (c := lc) (xs := W.flatMap MV.vals) (m := 1) (news := y.vals) rfl rfl rfl rfl rfl (fun p' c' => (by repeat constructor)) (Src.slice (Rd.ofRow (by repeat constructor)) rfl) (zad rfl) rfl (by omega) (by omega) fun p2 c2 => ?_
    repeat (first | ((first | apply H.Ac | apply H.Ad); (iterate 3 exact rfl)) | (first | apply H.Ab | apply H.nil | apply H.Aa) | ((apply H.ar; (iterate 4 exact rfl)); (with_reducible apply zag; omega); exact rfl) | (apply H.Ba))
    refine H.Ah (x := row eb _ _) (by repeat constructor) ?_
    refine H.Ae (x := refL _ _ _ _) (by repeat constructor) ?_
    refine H.Ae (x := slc (some ⟨sb, 0, none⟩) L.length c _ _ _) (by repeat constructor) ?_
    refine H.Ae (x := row yb _ _) (by repeat constructor) ?_
    refine H.Ae (x := slc p2 _ c2 _ _ _) (by repeat constructor) ?_
    refine H.Ae (x := row ob _ _) (by repeat constructor) ?_
    refine H.Bc (i + 1, W ++ [y], p2, c2) ⟨by show i + 1 ≤ L.length; omega, by show (W ++ [y]).map MV.m = _; rw [hfil, if_pos hop, List.map_append, hW]; rfl, fun z hz => ?_⟩ (by show L.length - (i + 1) < L.length - i; omega) ⟨rfl, ?_, rfl, rfl, rfl, trivial⟩ rfl ?_
    ·have hz : z ∈ W ++ [y] := hz
     rcases List.mem_append.1 hz with hz | hz
     ·exact hWL z hz
     ·rw [List.mem_singleton] at hz; subst hz; exact List.mem_of_getElem? hy
    ·show some (Value.slice p2 (W.length + 1) c2) = some (Value.slice p2 (W ++ [y]).length c2)
     rw [List.length_append]; rfl
    ·show _ :: slc p2 (W.length + 1) c2 _ 121 (W.flatMap MV.vals ++ y.vals) :: _ = _ :: slc p2 (W ++ [y]).length c2 _ 121 ((W ++ [y]).flatMap MV.vals) :: _
     rw [slc_snoc]
   )
  ·have h0 : ¬ z0 = 0 := fun h => hop (zbg.2 (.inl (by rw [hz0]; exact h)))
   have h12 : ¬ z0 = 12 := fun h => hop (zbg.2 (.inr (by rw [hz0]; exact h)))
   rw [if_neg hop, List.append_nil] at hfil
   repeat (first | ((first | apply H.Ac | apply H.Ar | apply H.Az); (iterate 3 exact rfl)) | (apply H.Ag; (iterate 3 exact rfl); exact inferInstance; exact rfl) | (apply H.Af; (iterate 3 exact rfl); apply Rd1.ofRow; (repeat (first | exact .here _ _ _ | apply At.there)); (iterate 2 exact rfl)) | (first | apply H.seq | apply H.Ab | apply H.nil | apply H.Aa) | ((apply H.cmp); (iterate 5 exact rfl)) | (first | apply H.Ak | apply H.Ao) | (apply H.Au; exact rfl; (omega)))
   refine H.Bs (i := i) rfl rfl rfl rfl hlt rfl ?_
   refine H.Al (ls := y.vals) rfl rfl rfl (rd hy) rfl rfl ?_
   refine H.Ae (x := refL _ _ _ _) (by repeat constructor) ?_
   refine H.Am rfl rfl rfl (hck _) ?_
   repeat (first | ((first | apply H.Ac | apply H.Ad); (iterate 3 exact rfl)) | (first | apply H.seq | apply H.Ab | apply H.nil | apply H.Aa) | ((apply H.cmp); (iterate 5 exact rfl)) | ((apply H.ar; (iterate 4 exact rfl)); (with_reducible apply zag; omega); exact rfl) | ((apply H.Ay); (iterate 4 exact rfl)) | (first | apply H.Ak | apply H.Ba) | (apply H.gno; (iterate 3 exact rfl); (assumption)) | (apply H.Aw; exact rfl; (assumption)))
   refine H.Ae (x := refL _ _ _ _) (by repeat constructor) ?_
   refine H.Ae (x := slc (some ⟨sb, 0, none⟩) L.length c _ _ _) (by repeat constructor) ?_
   refine H.Ae (x := row yb _ _) (by repeat constructor) ?_
   refine H.Ae (x := slc lp _ lc _ _ _) (by repeat constructor) ?_
   refine H.Ae (x := row ob _ _) (by repeat constructor) ?_
   exact H.Bc (i + 1, W, lp, lc) ⟨by show i + 1 ≤ L.length; omega, by show W.map MV.m = _; rw [hfil, hW], hWL⟩ (by show L.length - (i + 1) < L.length - i; omega) ⟨rfl, rfl, rfl, rfl, rfl, trivial⟩ rfl rfl
 ·have e : i = L.length := by omega
  subst e
  have etk : (L.map MV.m).take L.length = L.map MV.m := List.take_of_length_le (by rw [List.length_map]; exact Nat.le_refl _)
  rw [etk] at hW
  clear etk
  have hiW : RWφ fl W := ⟨fun y hy => hi.1 y (hWL y hy), by omega⟩
  repeat (first | ((first | apply H.Ac | apply H.Ad | apply H.Ar | apply H.Az); (iterate 3 exact rfl)) | (apply H.Ag; (iterate 3 exact rfl); exact inferInstance; exact rfl) | (apply H.Af; (iterate 3 exact rfl); apply Rd1.ofRow; (repeat (first | exact .here _ _ _ | apply At.there)); (iterate 2 exact rfl)) | (first | apply H.seq | apply H.Ab | apply H.nil | apply H.Aa) | ((apply H.cmp); (iterate 5 exact rfl)) | (apply H.Bq; (iterate 4 exact rfl); (repeat (first | exact .here _ _ _ | apply At.there))) | (first | apply H.Bl | apply H.Bj | apply H.Ao | apply H.Bk | apply H.Bm) | (apply H.Aw; exact rfl; (omega)))
  refine H.Ah (x := slc p L.length c _ _ _) (by repeat constructor) ?_
  refine H.Ae (x := refL _ _ _ _) (by repeat constructor) ?_
  refine H.Ae (x := slc lp _ lc _ _ _) (by repeat constructor) ?_
  refine H.Ae (x := row yb _ _) (by repeat constructor) ?_
  refine H.Ae (x := row ob _ _) (by repeat constructor) ?_
  refine H.Bo (ι := Nat × Option Nat) (fun s => [(10, .int .i64 (s.1 : Int)), (9, .int .i64 (atZ s.2)), (0, .pointer (some ⟨yb, 0, none⟩)), (1, .pointer (some ⟨rb, 0, none⟩)), (4, .pointer (some ⟨ob, 0, none⟩))]) (fun _ => f)
   (fun _ => row ob 47 (msgZ.vals none 0) :: row yb 76 [.slice lp W.length lc] :: slc lp W.length lc 47 121 (W.flatMap MV.vals) :: refL fr rb n l :: F)
   (fun s => s.1 ≤ W.length ∧ LeastAt cf (W.map MV.m) s.1 s.2) (fun s => W.length - s.1) (0, none) ⟨Nat.zero_le _, LeastAt.start _ _⟩ ⟨rfl, rfl, rfl, rfl, rfl, trivial⟩ rfl rfl fun s hs => ?_
  obtain ⟨i, a⟩ := s
  obtain ⟨hiL, ha⟩ : i ≤ W.length ∧ LeastAt cf (W.map MV.m) i a := hs
  by_cases hlt : i < W.length
  ·obtain ⟨y, hy⟩ : ∃ y, W[i]? = some y := ⟨_, List.getElem?_eq_getElem hlt⟩
   have hym := MV_at hy
   have hyi := hiW.1 y (List.mem_of_getElem? hy)
   have hck := fun G => hck0 y G (hyi.1.mono hfl) hyi.2
   refine H.Cf (p := lp) (n0 := W.length) (c := lc) (.there _ (.there _ (.here _ _ _))) (by omega) fun sb hp => ?_
   subst hp
   have rd : ∀ {k : Nat} {z : MV} {G : List HP}, W[k]? = some z → Rd f (row yb 76 [.slice (some ⟨sb, 0, none⟩) W.length lc] :: slc (some ⟨sb, 0, none⟩) W.length lc 47 121 (W.flatMap MV.vals) :: G) sb (0 + k * 121) z.vals := fun {k z G} h => by
    rw [Nat.zero_add]; exact Rd.slcElem MV.len (by decide) (.there _ (.here _ _ _)) h
   generalize hz0 : cf y.m = z0 at hck
   repeat (first | ((first | apply H.Ac | apply H.Ar | apply H.Az); (iterate 3 exact rfl)) | (apply H.Ag; (iterate 3 exact rfl); exact inferInstance; exact rfl) | (apply H.Af; (iterate 3 exact rfl); apply Rd1.ofRow; (repeat (first | exact .here _ _ _ | apply At.there)); (iterate 2 exact rfl)) | (first | apply H.seq | apply H.Ab | apply H.nil | apply H.Aa) | ((apply H.cmp); (iterate 5 exact rfl)) | (first | apply H.Ak | apply H.Ao) | (apply H.Au; exact rfl; (omega)))
   refine H.Ae (x := slc _ _ _ _ _ _) (by repeat constructor) ?_
   refine H.Ae (x := row yb _ _) (by repeat constructor) ?_
   refine H.Bt (by kernel_rfl) (by decide +kernel) (by repeat (first | exact zab | refine zaa ?_ | refine zac ?_ | refine zae ?_)) (S := [_, _]) rfl ?_
   refine HB.Aq [(0, false), (1, false), (2, false), (3, false), (4, false), (5, false), (6, false), (7, false)] 25 (by kernel_rfl) ?_
   repeat (first | ((first | apply HQ.Ac | apply HQ.Ar); (iterate 3 exact rfl)) | (apply HQ.Ag; (iterate 3 exact rfl); exact inferInstance; exact rfl) | (apply HQ.Af; (iterate 3 exact rfl); apply Rd1.ofRow; (repeat (exact .here _ _ _)); (iterate 2 exact rfl)))
   refine HQ.Bs (i := i) rfl rfl rfl rfl hlt rfl ?_
   refine HQ.Al (ls := y.vals) rfl rfl rfl (rd hy) rfl rfl ?_
   refine HQ.Ap rfl ?_
   refine HB.ev1 (i := 8) (by kernel_rfl) rfl ?_
   refine H.Ae (x := refL _ _ _ _) (by repeat constructor) ?_
   refine H.Am rfl rfl rfl (hck _) ?_
   repeat ((apply H.nil))
   refine H.Ae (x := slc _ _ _ _ _ _) (by repeat constructor) ?_
   refine H.Ae (x := row yb _ _) (by repeat constructor) ?_
   refine H.on0 rfl ?_
   refine HB.Aq [(9, false), (10, false), (11, false), (12, false), (13, false), (14, false), (15, false), (16, false), (17, false), (18, false), (19, false), (20, false), (21, false), (22, false), (23, false), (24, false), (25, false), (26, false), (27, false), (28, false), (29, false), (30, false), (31, false), (32, false)] 0 (by kernel_rfl) ?_
   repeat (first | ((apply HQ.Ac); (iterate 3 exact rfl)) | ((apply HQ.cmp); (iterate 5 exact rfl)))
   by_cases h0 : z0 = 0
   ·have hy0 : cf y.m = 0 := by rw [hz0]; exact h0
    cases a with
    | none =>
     have h9 : atZ none = -1 := rfl
     repeat (first | ((first | apply HQ.Ac | apply HQ.Ar); (iterate 3 exact rfl)) | ((apply HQ.cmp); (iterate 5 exact rfl)) | (apply HQ.Bd; (iterate 2 exact rfl)) | (apply HQ.Ax; (iterate 4 exact rfl)) | (apply HQ.Bi; (iterate 3 exact rfl); (assumption)))
     refine HQ.Ap rfl ?_
     refine HB.Bf (by kernel_rfl) ?_
     repeat (first | ((first | apply H.Ac | apply H.Ad); (iterate 3 exact rfl)) | (first | apply H.Ab | apply H.nil | apply H.Aa) | ((apply H.ar; (iterate 4 exact rfl)); (with_reducible apply zag; omega); exact rfl) | (apply H.Bh; exact rfl) | (apply H.Ba))
     refine H.Ae (x := refL _ _ _ _) (by repeat constructor) ?_
     refine H.Ae (x := slc _ _ _ _ _ _) (by repeat constructor) ?_
     refine H.Ae (x := row yb _ _) (by repeat constructor) ?_
     refine H.Ae (x := row ob _ _) (by repeat constructor) ?_
     exact H.Bc (i + 1, some i) ⟨by show i + 1 ≤ W.length; omega, LeastAt.first ha hym hy0⟩ (by show W.length - (i + 1) < W.length - i; omega) ⟨rfl, rfl, rfl, rfl, rfl, trivial⟩ rfl rfl
    | some j =>
     obtain ⟨hji, t, ht⟩ := ha.get
     obtain ⟨z, hz, rfl⟩ := MV_of ht
     have hjl : j < W.length := by omega
     have h9 : atZ (some j) = (j : Int) := rfl
     repeat (first | ((first | apply HQ.Ac | apply HQ.Ar); (iterate 3 exact rfl)) | (apply HQ.Ag; (iterate 3 exact rfl); exact inferInstance; exact rfl) | (apply HQ.Af; (iterate 3 exact rfl); apply Rd1.ofRow; (repeat (exact .here _ _ _)); (iterate 2 exact rfl)) | ((apply HQ.cmp); (iterate 5 exact rfl)) | (apply HQ.Bi; (iterate 3 exact rfl); (assumption)))
     refine HQ.Bs (i := i) rfl rfl rfl rfl hlt rfl ?_
     repeat ((apply HQ.Ag; (iterate 3 exact rfl); exact inferInstance; exact rfl))
     refine HQ.Af rfl rfl rfl (Rd1.of (i := 0) (rd hy) rfl) rfl ?_
     repeat (first | ((first | apply HQ.Ac | apply HQ.Ar); (iterate 3 exact rfl)) | (apply HQ.Ag; (iterate 3 exact rfl); exact inferInstance; exact rfl) | (apply HQ.Af; (iterate 3 exact rfl); apply Rd1.ofRow; (repeat (exact .here _ _ _)); (iterate 2 exact rfl)))
     refine HQ.Bs (i := j) rfl rfl rfl rfl hjl rfl ?_
     repeat ((apply HQ.Ag; (iterate 3 exact rfl); exact inferInstance; exact rfl))
     refine HQ.Af rfl rfl rfl (Rd1.of (i := 0) (rd hz) rfl) rfl ?_
     repeat (first | ((apply HQ.cmp); (iterate 5 exact rfl)) | (apply HQ.Ax; (iterate 4 exact rfl)) | ((apply HQ.Ay); (iterate 4 exact rfl)))
     by_cases hlz : y.m.origin < z.m.origin
     ·skip
      refine HQ.Ap rfl ?_
      refine HB.Bf (by kernel_rfl) ?_
      repeat (first | ((first | apply H.Ac | apply H.Ad); (iterate 3 exact rfl)) | (first | apply H.Ab | apply H.nil | apply H.Aa) | ((apply H.ar; (iterate 4 exact rfl)); (with_reducible apply zag; omega); exact rfl) | (apply H.Ba) | (apply H.Au; exact rfl; (assumption)))
      refine H.Ae (x := refL _ _ _ _) (by repeat constructor) ?_
      refine H.Ae (x := slc _ _ _ _ _ _) (by repeat constructor) ?_
      refine H.Ae (x := row yb _ _) (by repeat constructor) ?_
      refine H.Ae (x := row ob _ _) (by repeat constructor) ?_
      exact H.Bc (i + 1, some i) ⟨by show i + 1 ≤ W.length; omega, LeastAt.less ha hym hy0 ht hlz⟩ (by show W.length - (i + 1) < W.length - i; omega) ⟨rfl, rfl, rfl, rfl, rfl, trivial⟩ rfl rfl
     ·skip
      refine HQ.Ap rfl ?_
      refine HB.Bf (by kernel_rfl) ?_
      repeat (first | ((first | apply H.Ac | apply H.Ad); (iterate 3 exact rfl)) | (first | apply H.Ab | apply H.nil | apply H.Aa) | ((apply H.ar; (iterate 4 exact rfl)); (with_reducible apply zag; omega); exact rfl) | (first | apply H.Ak | apply H.Ba) | (apply H.Aw; exact rfl; (assumption)))
      refine H.Ae (x := refL _ _ _ _) (by repeat constructor) ?_
      refine H.Ae (x := slc _ _ _ _ _ _) (by repeat constructor) ?_
      refine H.Ae (x := row yb _ _) (by repeat constructor) ?_
      refine H.Ae (x := row ob _ _) (by repeat constructor) ?_
      exact H.Bc (i + 1, some j) ⟨by show i + 1 ≤ W.length; omega, LeastAt.keep ha hym ht hlz⟩ (by show W.length - (i + 1) < W.length - i; omega) ⟨rfl, rfl, rfl, rfl, rfl, trivial⟩ rfl rfl
   ·skip
    repeat (first | (apply HQ.Bd; (iterate 2 exact rfl)) | ((apply HQ.Ay); (iterate 4 exact rfl)) | (apply HQ.gno; (iterate 3 exact rfl); (assumption)))
    refine HQ.Ap rfl ?_
    refine HB.Bf (by kernel_rfl) ?_
    repeat (first | ((first | apply H.Ac | apply H.Ad); (iterate 3 exact rfl)) | (first | apply H.Ab | apply H.nil | apply H.Aa) | ((apply H.ar; (iterate 4 exact rfl)); (with_reducible apply zag; omega); exact rfl) | (apply H.Av; exact rfl) | (first | apply H.Ak | apply H.Ba))
    refine H.Ae (x := refL _ _ _ _) (by repeat constructor) ?_
    refine H.Ae (x := slc _ _ _ _ _ _) (by repeat constructor) ?_
    refine H.Ae (x := row yb _ _) (by repeat constructor) ?_
    refine H.Ae (x := row ob _ _) (by repeat constructor) ?_
    exact H.Bc (i + 1, a) ⟨by show i + 1 ≤ W.length; omega, LeastAt.skip ha hym (by rw [hz0]; exact h0)⟩ (by show W.length - (i + 1) < W.length - i; omega) ⟨rfl, rfl, rfl, rfl, rfl, trivial⟩ rfl rfl
  ·have e : i = W.length := by omega
   subst e
   have hlen : (W.map MV.m).length = W.length := List.length_map _
   cases a with
   | none =>
    have hN : NextR cf (L.map MV.m) none (W.map MV.m) := by
     rw [hW]
     exact .of_no (by rw [← hW, hlen]; exact ha)
    show H _ _ _ [_, (9, .int .i64 (-1)), _, _, _] f (_ :: _ :: _ :: _ :: F) _
    repeat (first | (refine H.By (t := 47) (out := msgZ.vals none 0) rfl rfl rfl (by kernel_rfl) rfl ?_) | ((first | apply H.Ac | apply H.Ar | apply H.Az); (iterate 3 exact rfl)) | (apply H.Ag; (iterate 3 exact rfl); exact inferInstance; exact rfl) | (apply H.Af; (iterate 3 exact rfl); apply Rd1.ofRow; (repeat (first | exact .here _ _ _ | apply At.there)); (iterate 2 exact rfl)) | (first | apply H.seq | apply H.Ab | apply H.nil | apply H.Aa) | ((apply H.cmp); (iterate 5 exact rfl)) | (apply H.Bh; exact rfl) | (first | apply H.Bl | apply H.Bj | apply H.Bk | apply H.Bm) | (apply H.Aw; exact rfl; (omega)))
    refine H.Bb (ls := msgZ.vals none 0) (vs := msgZ.vals none 0) (ls' := msgZ.vals none 0) rfl rfl rfl (zad rfl) rfl rfl (Nat.le_refl 121) (.here _ _ _) ?_
    repeat (first | ((apply H.Ad); (iterate 3 exact rfl)) | (first | apply H.nil | apply H.Aa) | (first | apply H.ret | apply H.Be))
    exact H.retCT (ls := msgZ.vals none 0) rfl rfl rfl rfl (Rd.ofRow (.here _ _ _)) rfl (fun _ s => (s.drop (.here _ _)).imp (zaq (lp, lc) hiW)) ⟨none, ⟨msgZ, none, 0⟩, W, hN, rfl, msgZ_good _, fun h => (by cases h), hWl, rfl, rfl, rfl⟩
   | some j =>
    obtain ⟨hji, t, ht⟩ := ha.get
    obtain ⟨z, hz, rfl⟩ := MV_of ht
    have hzi := hiW.1 z (List.mem_of_getElem? hz)
    have hN : NextR cf (L.map MV.m) (some z.m) ((W.take j ++ W.drop (j + 1)).map MV.m) := by
     have h1 := NextR.of_yes (c := cf) (ws := L.map MV.m) (j := j) (t := z.m) (by rw [← hW, hlen]; exact ha) (by rw [← hW]; exact ht)
     rw [← hW] at h1
     rw [List.map_append, List.map_take, List.map_drop]
     exact h1
    show H _ _ _ [_, (9, .int .i64 (j : Int)), _, _, _] f (_ :: _ :: _ :: _ :: F) _
    refine H.Cf (p := lp) (n0 := W.length) (c := lc) (.there _ (.there _ (.here _ _ _))) (by omega) fun sb hp => ?_
    subst hp
    refine H.slc_cap (.there _ (.there _ (.here _ _ _))) fun hcap _ hpl => ?_
    repeat (first | ((first | apply H.Ac | apply H.Ar | apply H.Az); (iterate 3 exact rfl)) | (apply H.Ag; (iterate 3 exact rfl); exact inferInstance; exact rfl) | (apply H.Af; (iterate 3 exact rfl); apply Rd1.ofRow; (repeat (first | exact .here _ _ _ | apply At.there)); (iterate 2 exact rfl)) | (first | apply H.seq | apply H.Ab | apply H.nil | apply H.Aa) | ((apply H.cmp); (iterate 5 exact rfl)) | (apply H.Av; exact rfl) | (first | apply H.Ak | apply H.Bl | apply H.Bj | apply H.Bk | apply H.Bm) | (apply H.Aw; exact rfl; (omega)))
    refine H.Bs (i := j) rfl rfl rfl rfl hji rfl ?_
    refine H.Al (ls := z.vals) rfl rfl rfl (by rw [Nat.zero_add]; exact Rd.slcElem MV.len (by decide) (.there _ (.there _ (.here _ _ _))) hz) rfl rfl ?_
    refine H.Bg (ls := msgZ.vals none 0) rfl rfl rfl fun zb => ?_
    refine H.Bb (ls := msgZ.vals none 0) (vs := z.vals) (ls' := z.vals) rfl rfl rfl (zad rfl) rfl rfl (Nat.le_refl 121) (.here _ _ _) ?_
    repeat (first | ((first | apply H.Ac | apply H.Ad | apply H.Ar); (iterate 3 exact rfl)) | (apply H.Ag; (iterate 3 exact rfl); exact inferInstance; exact rfl) | (apply H.Af; (iterate 3 exact rfl); apply Rd1.ofRow; (repeat (first | exact .here _ _ _ | apply At.there)); (iterate 2 exact rfl)) | (first | apply H.seq | apply H.Ab | apply H.nil | apply H.Aa))
    have hl1 : (W.take j).length = j := by rw [List.length_take]; omega
    have hl2 : (W.drop (j + 1)).length = W.length - (j + 1) := List.length_drop
    have e1 : (W.take j ++ W.drop (j + 1)).length = j + (W.length - (j + 1)) := by rw [List.length_append, hl1, hl2]
    have e2 : (W.take j ++ W.drop (j + 1)).flatMap MV.vals = (W.flatMap MV.vals).take (j * 121) ++ (W.flatMap MV.vals).drop ((j + 1) * 121) := by
     rw [flat_take MV.len, flat_drop MV.len _ (by omega), List.flatMap_append]
    refine H.sliceTo (hv := j) rfl rfl rfl rfl (by omega) rfl ?_
    refine H.slc0 47 121 ?_
    refine H.Bv (m := j) (xs := []) rfl rfl rfl rfl rfl (fun p' c' => .here _ _ _) (Src.slcTake (.there _ (.there _ (.there _ (.there _ (.here _ _ _))))) (by omega) hpl) (by rw [flat_take MV.len]; exact MVs_one _) rfl (by omega) (by omega) fun p1 c1 => ?_
    rw [Nat.zero_add, List.nil_append]
    repeat (first | ((first | apply H.Ac | apply H.Ad | apply H.Ar); (iterate 3 exact rfl)) | (apply H.Ag; (iterate 3 exact rfl); exact inferInstance; exact rfl) | (apply H.Af; (iterate 3 exact rfl); apply Rd1.ofRow; (repeat (first | exact .here _ _ _ | apply At.there)); (iterate 2 exact rfl)) | (first | apply H.seq | apply H.Ab | apply H.nil | apply H.Aa) | ((apply H.ar; (iterate 4 exact rfl)); (with_reducible apply zag; omega); exact rfl))
    refine H.slice (lo := some (.tmp 119)) (hi := none) (mx := none) (lv := j + 1) (hv := W.length) (mv := lc) rfl rfl ⟨_, _, rfl, by omega⟩ rfl rfl (fun h => by cases h) (by omega) hcap (Nat.le_refl _) rfl ?_
    refine H.Bv (m := W.length - (j + 1)) (xs := (W.flatMap MV.vals).take (j * 121)) rfl rfl rfl rfl rfl (fun p' c' => .here _ _ _) (Src.slcDrop (.there _ (.there _ (.there _ (.there _ (.here _ _ _))))) (by omega) hpl) (by rw [flat_drop MV.len _ (by omega)]; exact MVs_one _) rfl (by omega) (by omega) fun p3 c3 => ?_
    repeat (first | ((apply H.Ar); (iterate 3 exact rfl)) | (apply H.Ag; (iterate 3 exact rfl); exact inferInstance; exact rfl) | (first | apply H.seq | apply H.Ab | apply H.nil | apply H.Aa) | (apply H.Bq; (iterate 4 exact rfl); (repeat (first | exact .here _ _ _ | apply At.there))))
    refine H.Ae (x := row ob _ _) (by repeat constructor) ?_
    refine H.Ae (x := row zb _ _) (by repeat constructor) ?_
    refine H.Al (ls := z.vals) rfl rfl rfl (Rd.ofRow (.here _ _ _)) rfl rfl ?_
    refine H.Bb (ls := msgZ.vals none 0) (vs := z.vals) (ls' := z.vals) rfl rfl rfl (zad rfl) rfl rfl (Nat.le_refl 121) (.there _ (.here _ _ _)) ?_
    repeat (first | ((apply H.Ad); (iterate 3 exact rfl)) | (first | apply H.nil | apply H.Aa) | (apply H.ret))
    refine H.Ah (x := row zb _ _) (by repeat constructor) ?_
    refine H.Ah (x := slc (some ⟨sb, 0, none⟩) _ _ _ _ _) (by repeat constructor) ?_
    refine H.Ae (x := slc p3 _ _ _ _ _) (by repeat constructor) ?_
    refine H.Ae (x := row yb _ _) (by repeat constructor) ?_
    refine H.Ae (x := row ob _ _) (by repeat constructor) ?_
    have hi' : RWφ fl (W.take j ++ W.drop (j + 1)) := by
     refine ⟨fun p hp => hiW.1 p ?_, by rw [e1]; omega⟩
     rcases List.mem_append.1 hp with hp | hp
     ·exact List.mem_of_mem_take hp
     ·exact List.mem_of_mem_drop hp
    have hfold := zaq (yb := yb) (F := refL fr rb n l :: F) (p3, c3) hi'
    rw [e1, e2] at hfold
    exact H.retCT (ls := z.vals) rfl rfl rfl rfl (Rd.ofRow (.here _ _ _)) rfl (fun _ s => (s.drop (.here _ _)).imp hfold) ⟨some z.m, z, _, hN, rfl, hzi.1.mono hfl, fun _ => ⟨hzi.2, hzi.1⟩, by rw [e1]; omega, rfl, rfl, rfl⟩
end
end Go.Proofs.YtoigpgdmignaoaaGreatDoor

namespace Go.Proofs.YtoigpgdmignaoaaGreatDoor
open Go Go.ChangeShapes Go.WideShapes Go.RowKit Go.Deep
theorem Reads.bool {P : Program} {W : World} {t : TypeId} {cs : List Value} (ht : P.underlying t = some .bool) (h : Reads P W t cs) : ∃ b, cs = [.bool b] := by
 obtain ⟨H', enc, b, sp, hd, n, x, h⟩ := h
 obtain ⟨z, h1, _⟩ := DataW.trod_bool ht h
 exact ⟨z, h1⟩
theorem Reads.u8 {W : World} {cs : List Value} (h : Reads Tryz.prog W 5 cs) : ∃ x : UInt8, cs = [.int .u8 (x.toNat : Nat)] := by
 obtain ⟨x, _, e⟩ := reads_byte h
 exact ⟨x, e⟩
set_option maxHeartbeats 4000000 in
theorem reads_a12 {W : World} {cs : List Value} (h : Reads Tryz.prog W 113 cs) : ∃ x : A12, x.Has (memOf W) ∧ cs = x.vals := by
 obtain ⟨ps, rfl, hh⟩ := h.parts Tryz.underlying113 (by kernel_rfl)
 have h : AllReads Tryz.prog W [5, 5, 4, 5, 5, 5, 5, 55] ps := hh
 match ps, h with
 | [p0, p1, p2, p3, p4, p5, p6, p7], ⟨r0, r1, r2, r3, r4, r5, r6, r7, _⟩ =>
  obtain ⟨z0, rfl⟩ := r0.u8
  obtain ⟨z1, rfl⟩ := r1.u8
  obtain ⟨b2, rfl⟩ := r2.bool Tryz.underlying4
  obtain ⟨z3, rfl⟩ := r3.u8
  obtain ⟨z4, rfl⟩ := r4.u8
  obtain ⟨z5, rfl⟩ := r5.u8
  obtain ⟨z6, rfl⟩ := r6.u8
  obtain ⟨p, c, xs, rfl, _, _, _, hat⟩ := r7.list (sz := 1) Tryz.underlying55 (by kernel_rfl) (by decide) fun cs => reads_byte
  exact ⟨⟨z0, z1, b2, z3, z4, z5, z6, xs, p, c⟩, listAt_bat hat, rfl⟩
theorem ArgOk.u8 {W : World} {v : Value} (h : ArgOk Tryz.prog W 5 v) : ∃ x : UInt8, v = .int .u8 (x.toNat : Nat) := by
 obtain ⟨z, rfl, hz⟩ := h.int Tryz.underlying5
 exact ⟨UInt8.ofNat z.toNat, by rw [u8_back hz]⟩
theorem ArgOk.acts {W : World} {v : Value} (h : ArgOk Tryz.prog W 22 v) : ∃ (p : Option Addr) (c : Nat) (xs : List A12), v = .slice p xs.length c ∧ xs.length ≤ 9223372036854775807 ∧ (∀ x ∈ xs, x.Has (memOf W)) ∧ ListAt (memOf W) p 8 A12.vals xs := by
  obtain ⟨p, c, xs, rfl, h1, h2, hq, hat⟩ := h.list (sz := 8) Tryz.underlying22 (by kernel_rfl) (by decide) fun cs => reads_a12
  exact ⟨p, c, xs, rfl, by have : maxLen ≤ 9223372036854775807 := by decide
                           omega, hq, hat⟩
structure S13 where
 next : Bool
 take : Bool
 raw : Bool
 pick : UInt8
 x : MV
def S13.vals (s : S13) : List Value := [.bool s.next, .bool s.take, .bool s.raw, .int .u8 (s.pick.toNat : Nat)] ++ s.x.vals
def S13.Has (f : Frag) (s : S13) : Prop := s.x.Has f ∧ s.x.m.Typ
theorem reads_s13 {W : World} {cs : List Value} (h : Reads Tryz.prog W 78 cs) : ∃ x : S13, x.Has (memOf W) ∧ cs = x.vals := by
 obtain ⟨ps, rfl, hh⟩ := h.parts Tryz.underlying78 (by kernel_rfl)
 have h : AllReads Tryz.prog W [4, 4, 4, 5, 47] ps := hh
 match ps, h with
 | [p0, p1, p2, p3, p4], ⟨r0, r1, r2, r3, r4, _⟩ =>
  obtain ⟨b0, rfl⟩ := r0.bool Tryz.underlying4
  obtain ⟨b1, rfl⟩ := r1.bool Tryz.underlying4
  obtain ⟨b2, rfl⟩ := r2.bool Tryz.underlying4
  obtain ⟨z3, rfl⟩ := r3.u8
  obtain ⟨x, h1, h2, rfl⟩ := reads_msgT r4
  refine ⟨⟨b0, b1, b2, z3, x⟩, ⟨h1, h2⟩, ?_⟩
  unfold S13.vals
  simp
def fewS13 (l : List S13) : Bool := decide (l.length ≤ 150) && l.all fun s => decide (s.x.m.body.q.length ≤ 20)
section
variable (f : Frag) (F : List HP)
theorem few13_fn {p : Option Addr} {c : Nat} {l : List S13} (hat : ListAt f p 125 S13.vals l) (hl : l.length ≤ 9223372036854775807) : Fn Tryz.prog 34 [.slice p l.length c] f F (Ret (.bool (fewS13 l)) f F) := by
 by_cases h30 : l.length ≤ 150
 ·refine Fn.enter Tryz.func34 rfl Tryz.ntmps34 rfl (L := [(0, _)]) ⟨rfl, trivial⟩ fun base => ?_
  repeat (first | ((first | apply H.Ac | apply H.Ad | apply H.Az); (iterate 3 exact rfl)) | (first | apply H.seq | apply H.Ab | apply H.nil | apply H.Aa) | ((apply H.cmp); (iterate 5 exact rfl)) | (first | apply H.Ak | apply H.Ao) | (apply H.Aw; exact rfl; (omega)))
  refine H.Bo (ι := Nat) (fun i => [(3, .int .i64 (i : Int)), (0, .slice p l.length c)]) (fun _ => f) (fun _ => F) (fun i => i ≤ l.length ∧ ∀ j x, j < i → l[j]? = some x → x.x.m.body.q.length ≤ 20) (fun i => l.length - i) 0 ⟨Nat.zero_le _, fun j x hj => by omega⟩ ⟨rfl, rfl, trivial⟩ rfl rfl fun i hi => ?_
  obtain ⟨hi, hb⟩ : i ≤ l.length ∧ ∀ j x, j < i → l[j]? = some x → x.x.m.body.q.length ≤ 20 := hi
  by_cases hlt : i < l.length
  ·have hx : l[i]? = some l[i] := List.getElem?_eq_getElem hlt
   generalize l[i] = x at hx
   obtain ⟨b, off, cs, T, fr, rfl, hfb, hcs⟩ := hat i x hx
   have rd : ∀ A, Rd f A b (off + i * 125) x.vals := fun A => Rd.imm hfb hcs
   by_cases hq : x.x.m.body.q.length ≤ 20
   ·repeat (first | ((first | apply H.Ac | apply H.Az); (iterate 3 exact rfl)) | (first | apply H.seq | apply H.Ab | apply H.nil | apply H.Aa) | ((apply H.cmp); (iterate 5 exact rfl)) | (first | apply H.Ak | apply H.Ao) | (apply H.Au; exact rfl; (omega)))
    refine H.Bs rfl rfl rfl rfl hlt rfl ?_
    repeat ((apply H.Ag; (iterate 3 exact rfl); exact inferInstance; exact rfl))
    refine H.Af rfl rfl rfl (Rd1.of (i := 60) (rd _) rfl) rfl ?_
    repeat (first | ((first | apply H.Ac | apply H.Ad | apply H.Az); (iterate 3 exact rfl)) | (first | apply H.Ab | apply H.nil | apply H.Aa) | ((apply H.cmp); (iterate 5 exact rfl)) | ((apply H.ar; (iterate 4 exact rfl)); (with_reducible apply zag; omega); exact rfl) | (first | apply H.Ak | apply H.Ba) | (apply H.Aw; exact rfl; (omega)))
    refine H.Bc (i + 1) ⟨by show i + 1 ≤ l.length; omega, fun j y hj hy => ?_⟩ (by show l.length - (i + 1) < l.length - i; omega) ⟨rfl, rfl, trivial⟩ rfl rfl
    by_cases e : j = i
    ·subst e; rw [hx] at hy; cases hy; exact hq
    ·exact hb j y (by omega) hy
   ·repeat (first | ((first | apply H.Ac | apply H.Az); (iterate 3 exact rfl)) | (first | apply H.seq | apply H.Ab | apply H.nil | apply H.Aa) | ((apply H.cmp); (iterate 5 exact rfl)) | (first | apply H.Ak | apply H.Ao) | (apply H.Au; exact rfl; (omega)))
    refine H.Bs rfl rfl rfl rfl hlt rfl ?_
    repeat ((apply H.Ag; (iterate 3 exact rfl); exact inferInstance; exact rfl))
    refine H.Af rfl rfl rfl (Rd1.of (i := 60) (rd _) rfl) rfl ?_
    repeat (first | ((first | apply H.Ad | apply H.Az); (iterate 3 exact rfl)) | (first | apply H.seq | apply H.Ab | apply H.nil | apply H.Aa) | ((apply H.cmp); (iterate 5 exact rfl)) | (first | apply H.ret | apply H.Be | apply H.Bx | apply H.Cd) | (apply H.Au; exact rfl; (omega)))
    refine H.Aj rfl rfl (fun _ h => h) ⟨?_, rfl, rfl⟩
    have : fewS13 l = false := by
     unfold fewS13
     rw [Bool.and_eq_false_iff]
     refine .inr (List.all_eq_false.2 ⟨x, List.mem_of_getElem? hx, by rw [decide_eq_false hq]; decide⟩)
    rw [this]
  ·repeat (first | ((first | apply H.Ac | apply H.Ad | apply H.Az); (iterate 3 exact rfl)) | (first | apply H.seq | apply H.Ab | apply H.nil | apply H.Aa) | ((apply H.cmp); (iterate 5 exact rfl)) | (first | apply H.ret | apply H.Bl | apply H.Bj | apply H.Bk | apply H.Bm) | (apply H.Aw; exact rfl; (omega)))
   refine H.Aj rfl rfl (fun _ h => h) ⟨?_, rfl, rfl⟩
   have : fewS13 l = true := by
    unfold fewS13
    rw [decide_eq_true h30, Bool.true_and, List.all_eq_true]
    intro x hx
    obtain ⟨j, hj⟩ := List.getElem?_of_mem hx
    have hjl : j < l.length := by
     rcases Nat.lt_or_ge j l.length with h1 | h1
     ·exact h1
     ·rw [List.getElem?_eq_none h1] at hj; cases hj
    exact decide_eq_true (hb j x (by omega) hj)
   rw [this]
 ·refine Fn.enter Tryz.func34 rfl Tryz.ntmps34 rfl (L := [(0, _)]) ⟨rfl, trivial⟩ fun base => ?_
  repeat (first | ((first | apply H.Ac | apply H.Ad | apply H.Az); (iterate 3 exact rfl)) | (first | apply H.seq | apply H.Ab | apply H.nil | apply H.Aa) | ((apply H.cmp); (iterate 5 exact rfl)) | (first | apply H.ret | apply H.Be) | (apply H.Au; exact rfl; (omega)))
  refine H.Aj rfl rfl (fun _ h => h) ⟨?_, rfl, rfl⟩
  have : fewS13 l = false := by unfold fewS13; rw [decide_eq_false h30]; rfl
  rw [this]
end
end Go.Proofs.YtoigpgdmignaoaaGreatDoor

namespace Go.Proofs.YtoigpgdmignaoaaGreatDoor
open Go
theorem chk_uniq {n : Nat} {S : Strm} {x y : Msg} (hx : chk n S x = 0) (hy : chk n S y = 0) (h : x.origin = y.origin) : x.number = y.number := by
 obtain ⟨_, _, h1, _⟩ := chk_zero hx
 obtain ⟨_, _, h2, _⟩ := chk_zero hy
 rw [h1, h2, orgI_of h]
structure PSt where
 e : Frag
 L : List MV
 M : List MV
 ws : List MV
 vs : List MV
structure PΦ (f1 : Frag) (i : Nat) (s : PSt) : Prop where
 le : Le f1 s.e
 lm : s.L.map MV.m = s.M.map MV.m
 len : s.L.length ≤ i
 p : (s.ws.map MV.m).Perm (s.vs.map MV.m)
 ku : KU (s.ws.map MV.m)
 wl : s.ws.length ≤ i
theorem PΦ.vl {f1 : Frag} {i : Nat} {s : PSt} (h : PΦ f1 i s) : s.vs.length = s.ws.length := by
 have := h.p.length_eq
 rw [List.length_map, List.length_map] at this
 exact this.symm
theorem PΦ.ml {f1 : Frag} {i : Nat} {s : PSt} (h : PΦ f1 i s) : s.M.length = s.L.length := by
 have := congrArg List.length h.lm
 rw [List.length_map, List.length_map] at this
 exact this.symm
theorem NextR.le {c : Msg → Int} {ws : List Msg} {r : Option Msg} {ws' : List Msg} (h : NextR c ws r ws') : ws'.length ≤ ws.length := by
 have h2 := List.length_filter_le (fun x => openZ (c x)) ws
 cases h with
 | no _ _ p => rw [p.length_eq]; exact h2
 | yes _ _ _ _ _ p =>
  have h1 := p.length_eq
  rw [List.length_cons] at h1
  omega
theorem NextR.zero {c : Msg → Int} {ws : List Msg} {x : Msg} {ws' : List Msg} (h : NextR c ws (some x) ws') : c x = 0 := by
 cases h with
 | yes _ _ h0 => exact h0
section
variable (f : Frag) (F : List HP)
set_option maxRecDepth 20000 in
set_option maxHeartbeats 6400000 in
theorem waitPlays_fn (htab : TabAt f) {n8 : UInt8} {p : Option Addr} {c : Nat} {xs : List A12} (hat : ListAt f p 8 A12.vals xs) (hh : ∀ x ∈ xs, x.Has f) (hxl : xs.length ≤ 9223372036854775807)
  {sp : Option Addr} {sc : Nat} {ss : List S13} (hst : ListAt f sp 125 S13.vals ss) (hsh : ∀ s ∈ ss, s.Has f) (hsl : ss.length ≤ 9223372036854775807) :
  Fn Tryz.prog 8 [.int .u8 (n8.toNat : Nat), .slice p xs.length c, .slice sp ss.length sc] f F (Ret (.bool true) f F) := by
 have hfew := fun G => few12_fn f G (c := c) hat hxl
 have hfm := fun G => few13_fn f G (c := sc) hst hsl
 cases hf : few12 xs with
 | false =>
  rw [hf] at hfew
  refine Fn.enter Tryz.func8 rfl Tryz.ntmps8 rfl (L := [(0, _), (1, _), (2, _)]) ⟨rfl, rfl, rfl, trivial⟩ fun base => ?_
  repeat (first | ((first | apply H.Ac | apply H.Ad); (iterate 3 exact rfl)) | (first | apply H.seq | apply H.Ab | apply H.nil | apply H.Aa))
  refine H.Am rfl rfl rfl (hfew _) ?_
  refine H.not (b := _) (c := _) rfl rfl rfl rfl ?_
  repeat (first | ((apply H.Ac); (iterate 3 exact rfl)) | (first | apply H.seq | apply H.Ab | apply H.nil | apply H.Aa) | (apply H.Bd; (iterate 2 exact rfl)) | (apply H.Ax; (iterate 4 exact rfl)) | (apply H.Bh; exact rfl))
  refine H.Am rfl rfl rfl (works13_fn f _ htab) ?_
  repeat (first | ((apply H.Ad); (iterate 3 exact rfl)) | (first | apply H.nil | apply H.Aa) | (first | apply H.ret | apply H.Be))
  exact H.Aj rfl rfl (fun _ h => h) ⟨rfl, rfl, rfl⟩
 | true =>
  rw [hf] at hfew
  obtain ⟨hl100, hq20⟩ := few12_all hf
  cases hf2 : fewS13 ss with
  | false =>
   rw [hf2] at hfm
   refine Fn.enter Tryz.func8 rfl Tryz.ntmps8 rfl (L := [(0, _), (1, _), (2, _)]) ⟨rfl, rfl, rfl, trivial⟩ fun base => ?_
   repeat (first | ((first | apply H.Ac | apply H.Ad); (iterate 3 exact rfl)) | (first | apply H.seq | apply H.Ab | apply H.nil | apply H.Aa))
   refine H.Am rfl rfl rfl (hfew _) ?_
   refine H.not (b := _) (c := _) rfl rfl rfl rfl ?_
   repeat (((apply H.Ac); (iterate 3 exact rfl)))
   refine H.Am rfl rfl rfl (hfm _) ?_
   refine H.not (b := _) (c := _) rfl rfl rfl rfl ?_
   repeat (first | (first | apply H.seq | apply H.Ab | apply H.nil | apply H.Aa) | ((apply H.Ay); (iterate 4 exact rfl)) | (apply H.Bh; exact rfl))
   refine H.Am rfl rfl rfl (works13_fn f _ htab) ?_
   repeat (first | ((apply H.Ad); (iterate 3 exact rfl)) | (first | apply H.nil | apply H.Aa) | (first | apply H.ret | apply H.Be))
   exact H.Aj rfl rfl (fun _ h => h) ⟨rfl, rfl, rfl⟩
  | true =>
   rw [hf2] at hfm
   obtain ⟨n, hn8⟩ : ∃ n, n = 3 + 2 * (n8.toNat % 5) := ⟨_, rfl⟩
   have hn3 : 3 ≤ n ∧ n ≤ 11 := by omega
   have hacts := fun G => acts_fn f G hn8 (c := c) hat (fun x hx => ⟨hh x hx, hq20 x hx⟩) hl100
   have hinv : WInv n (worldOf n xs) := by have := worldOf_inv (n := n) (by omega) hn3.2 xs xs.length; rwa [List.take_length] at this
   have hwl : (worldOf n xs).all.length ≤ 100 := by have := worldOf_len n xs xs.length; rw [List.take_length] at this; omega
   generalize worldOf n xs = W at *
   have hsf : ss.length ≤ 150 ∧ ∀ s ∈ ss, s.x.m.body.q.length ≤ 20 := by
    unfold fewS13 at hf2
    simp only [Bool.and_eq_true, decide_eq_true_eq, List.all_eq_true] at hf2
    exact hf2
   have hs150 := hsf.1
   have hsg : ∀ s ∈ ss, s.x.Good f ∧ Pos s.x.m := fun s hs => ⟨good_few (hsh s hs).1 (hsf.2 s hs), (hsh s hs).2.2⟩
   refine Fn.enter Tryz.func8 rfl Tryz.ntmps8 rfl (L := [(0, _), (1, _), (2, _)]) ⟨rfl, rfl, rfl, trivial⟩ fun base => ?_
   repeat (first | ((first | apply H.Ac | apply H.Ad); (iterate 3 exact rfl)) | (first | apply H.seq | apply H.Ab | apply H.nil | apply H.Aa))
   refine H.Am rfl rfl rfl (hfew _) ?_
   refine H.not (b := _) (c := _) rfl rfl rfl rfl ?_
   repeat (((apply H.Ac); (iterate 3 exact rfl)))
   refine H.Am rfl rfl rfl (hfm _) ?_
   refine H.not (b := _) (c := _) rfl rfl rfl rfl ?_
   repeat (first | ((apply H.Ac); (iterate 3 exact rfl)) | (first | apply H.seq | apply H.Ab | apply H.nil | apply H.Aa) | ((apply H.Ay); (iterate 4 exact rfl)) | (apply H.Av; exact rfl) | (apply H.Ak))
   refine H.call rfl rfl rfl (hacts _) fun v' f' A' hr => ?_
   obtain ⟨g, wb, kb, ap, ac, l, rfl, hd, rfl, rfl, hwat⟩ := hr
   have le1 := Le.un f g
   generalize un f g = f1 at *
   have hlm := hwat.m
   have hll : l.length = W.all.length := by rw [← hlm, List.length_map]
   have hlg : ∀ y ∈ l, y.Good f1 ∧ Pos y.m := fun y hy => by
    refine ⟨hwat.g y hy, ?_⟩
    obtain ⟨j, hj⟩ := List.getElem?_of_mem hy
    have hjm : W.all[j]? = some y.m := by rw [← hlm, List.getElem?_map, hj]; rfl
    exact fun i hi => ((hinv.ok j y.m hjm).dep i hi).1
   have hla := hwat.a
   clear hacts hfew hfm hinv hwat hsf hsh hlm
   repeat (first | ((first | apply H.Ac | apply H.Ad | apply H.Ar | apply H.Az); (iterate 3 exact rfl)) | (apply H.Ag; (iterate 3 exact rfl); exact inferInstance; exact rfl) | (apply H.Af; (iterate 3 exact rfl); apply Rd1.ofRow; (repeat (exact .here _ _ _)); (iterate 2 exact rfl)) | (first | apply H.seq | apply H.Ab | apply H.nil | apply H.Aa))
   refine H.callE rfl rfl rfl (lnew_fn f1 _ (fewz_odd hn8)) fun la => ?_
   repeat (first | ((first | apply H.Ac | apply H.Ad | apply H.Ar | apply H.Az); (iterate 3 exact rfl)) | (apply H.Ag; (iterate 3 exact rfl); exact inferInstance; exact rfl) | (apply H.Af; (iterate 3 exact rfl); apply Rd1.ofRow; (repeat (first | exact .here _ _ _ | apply At.there)); (iterate 2 exact rfl)) | (first | apply H.seq | apply H.Ab | apply H.nil | apply H.Aa) | ((apply H.Cc); (iterate 4 exact rfl)))
   refine H.callE rfl rfl rfl (rlnew_fn f1 _ (fewz_odd hn8)) fun rb => ?_
   repeat (first | ((first | apply H.Ac | apply H.Ad); (iterate 3 exact rfl)) | (first | apply H.seq | apply H.Ab | apply H.nil | apply H.Aa) | ((apply H.cmp); (iterate 5 exact rfl)) | ((first | apply H.Ay | apply H.Cc); (iterate 4 exact rfl)) | ((apply H.Ce); (iterate 5 exact rfl)) | (apply H.Av; exact rfl) | (apply H.Ak))
   refine H.callE rfl rfl rfl (wnew_fn f1 _) fun xb => ?_
   repeat (first | (refine H.By (t := 76) (out := [.slice none 0 0]) rfl rfl rfl (by kernel_rfl) rfl ?_) | ((apply H.Ad); (iterate 3 exact rfl)) | (first | apply H.seq | apply H.Ab | apply H.nil | apply H.Aa))
   refine H.box (ls := [.slice none 0 0]) rfl rfl rfl rfl fun yb => ?_
   repeat (first | ((apply H.Ad); (iterate 3 exact rfl)) | (first | apply H.seq | apply H.Ab | apply H.nil | apply H.Aa) | (apply H.Ao))
   refine H.slc0 47 121 ?_
   refine H.Ae (x := row yb _ _) (by repeat constructor) ?_
   refine H.imp (zaq (fl := f1) (L := []) (none, 0) ⟨fun x hx => (by cases hx), Nat.zero_le _⟩) ?_
   refine H.Ae (x := refL _ _ _ _) (by repeat constructor) ?_
   refine H.Ae (x := waitR _ _ _) (by repeat constructor) ?_
   refine H.Ae (x := loreH _ _ _ _) (by repeat constructor) ?_
   refine H.Ae (x := waitH _ _ _) (by repeat constructor) ?_
   refine H.Bo (ι := Nat × PSt) (fun s => [(14, .int .i64 (s.1 : Int)), (2, .slice sp ss.length sc), (7, .pointer (some ⟨wb, 0, none⟩)), (8, .pointer (some ⟨la, 0, none⟩)), (10, .pointer (some ⟨rb, 0, none⟩)), (12, .pointer (some ⟨xb, 0, none⟩)), (13, .pointer (some ⟨yb, 0, none⟩))]) (fun s => s.2.e)
    (fun s => waitH s.2.e xb s.2.ws :: loreH s.2.e la n s.2.L :: waitR s.2.e yb s.2.vs :: refL s.2.e rb n s.2.M :: row wb 34 (worldC kb n ap l.length ac) :: F)
    (fun s => s.1 ≤ ss.length ∧ PΦ f1 s.1 s.2) (fun s => ss.length - s.1) (0, ⟨f1, [], [], [], []⟩) ⟨Nat.zero_le _, ⟨Le.refl f1, rfl, Nat.le_refl 0, List.Perm.refl _, List.nodup_nil, Nat.le_refl 0⟩⟩ ⟨rfl, rfl, rfl, rfl, rfl, rfl, rfl, trivial⟩ rfl rfl fun s hs => ?_
   obtain ⟨i, e, L, M, ws, vs⟩ := s
   obtain ⟨hi, hP⟩ : i ≤ ss.length ∧ PΦ f1 i ⟨e, L, M, ws, vs⟩ := hs
   have hle : Le f1 e := hP.le
   have hfe := le1.trans hle
   show H _ _ _ [(14, .int .i64 (i : Int)), _, _, _, _, _, _] e (waitH e xb ws :: loreH e la n L :: waitR e yb vs :: refL e rb n M :: _ :: F) _
   by_cases hlt : i < ss.length
   ·obtain ⟨s, hs⟩ : ∃ s, ss[i]? = some s := ⟨_, List.getElem?_eq_getElem hlt⟩
    have hsg2 := hsg s (List.mem_of_getElem? hs)
    obtain ⟨b, off, cs, T, fr, rfl, hfb, hcs⟩ := hst i s hs
    have rd : ∀ A, Rd e A b (off + i * 125) s.vals := fun A => Rd.imm (hfe b _ hfb) hcs
    have hLl : L.length ≤ i := hP.len
    have hMl : M.length = L.length := hP.ml
    have hwsl : ws.length ≤ i := hP.wl
    have hvsl : vs.length = ws.length := hP.vl
    have hLM : L.map MV.m = M.map MV.m := hP.lm
    repeat (first | ((first | apply H.Ac | apply H.Az); (iterate 3 exact rfl)) | (first | apply H.seq | apply H.Ab | apply H.nil | apply H.Aa) | ((apply H.cmp); (iterate 5 exact rfl)) | (first | apply H.Ak | apply H.Ao) | (apply H.Au; exact rfl; (omega)))
    refine H.Bs (i := i) rfl rfl rfl rfl hlt rfl ?_
    repeat ((apply H.Ag; (iterate 3 exact rfl); exact inferInstance; exact rfl))
    refine H.Af (v := .bool s.next) rfl rfl rfl (Rd1.of (i := 0) (rd _) rfl) rfl ?_
    repeat ((first | apply H.nil | apply H.Aa))
    refine H.cut (ι := PSt) (fun _ => [(14, .int .i64 (i : Int)), (2, .slice (some ⟨b, off, none⟩) ss.length sc), (7, .pointer (some ⟨wb, 0, none⟩)), (8, .pointer (some ⟨la, 0, none⟩)), (10, .pointer (some ⟨rb, 0, none⟩)), (12, .pointer (some ⟨xb, 0, none⟩)), (13, .pointer (some ⟨yb, 0, none⟩))]) (fun s => s.e)
     (fun s => waitH s.e xb s.ws :: loreH s.e la n s.L :: waitR s.e yb s.vs :: refL s.e rb n s.M :: row wb 34 (worldC kb n ap l.length ac) :: F) (fun s => PΦ f1 (i + 1) s) _ (fun s2 hs2 => ?_) ?_
    ·obtain ⟨e2, L2, M2, ws2, vs2⟩ := s2
     have hvl : vs2.length = ws2.length := hs2.vl
     show H _ _ _ [_, _, _, _, _, _, _] e2 (waitH e2 xb ws2 :: loreH e2 la n L2 :: waitR e2 yb vs2 :: refL e2 rb n M2 :: _ :: F) _
     refine H.Ae (x := waitR _ _ _) (by repeat constructor) ?_
     refine H.unpack fun i0 hi0 => ?_
     obtain ⟨p2, c2⟩ := i0
     rw [hvl]
     repeat ((apply H.seq))
     refine H.Ae (x := row yb _ _) (by repeat constructor) ?_
     refine H.Bt (by kernel_rfl) (by decide +kernel) (by repeat (first | exact zab | refine zaa ?_ | refine zac ?_ | refine zae ?_)) (S := [_]) rfl ?_
     refine HB.Aq [(0, false), (2, false), (3, false), (4, false), (5, false), (6, false)] 2 (by kernel_rfl) ?_
     repeat (first | ((first | apply HQ.Ac | apply HQ.Ar | apply HQ.Az); (iterate 3 exact rfl)) | (apply HQ.Ag; (iterate 3 exact rfl); exact inferInstance; exact rfl) | (apply HQ.Af; (iterate 3 exact rfl); apply Rd1.ofRow; (repeat (exact .here _ _ _)); (iterate 2 exact rfl)))
     refine HQ.Ap rfl ?_
     refine HB.ev1 (i := 1) (by kernel_rfl) rfl ?_
     refine H.Ae (x := waitH _ _ _) (by repeat constructor) ?_
     refine H.Am rfl rfl rfl (wlen_fn e2 _) ?_
     repeat ((apply H.nil))
     refine H.Ae (x := row yb _ _) (by repeat constructor) ?_
     refine H.on0 rfl ?_
     refine HB.Aq [(7, false)] 0 (by kernel_rfl) ?_
     repeat (((apply HQ.cmp); (iterate 5 exact rfl)))
     refine HQ.Ap rfl ?_
     refine HB.Bf (by kernel_rfl) ?_
     rw [← hvl]
     repeat (first | ((first | apply H.Ac | apply H.Ad); (iterate 3 exact rfl)) | (first | apply H.Ab | apply H.nil | apply H.Aa) | ((apply H.ar; (iterate 4 exact rfl)); (with_reducible apply zag; omega); exact rfl) | (first | apply H.Ak | apply H.Ba) | (apply H.Aw; exact rfl; (omega)))
     refine H.Ae (x := slc p2 _ _ _ _ _) (by repeat constructor) ?_
     refine H.Ae (x := row yb _ _) (by repeat constructor) ?_
     refine H.imp (zaq (p2, c2) hi0) ?_
     refine H.Ae (x := refL _ _ _ _) (by repeat constructor) ?_
     refine H.Ae (x := waitR _ _ _) (by repeat constructor) ?_
     refine H.Ae (x := loreH _ _ _ _) (by repeat constructor) ?_
     refine H.Ae (x := waitH _ _ _) (by repeat constructor) ?_
     exact H.Bc (i + 1, ⟨e2, L2, M2, ws2, vs2⟩) ⟨by show i + 1 ≤ ss.length; omega, hs2⟩ (by show ss.length - (i + 1) < ss.length - i; omega) ⟨rfl, rfl, rfl, rfl, rfl, rfl, rfl, trivial⟩ rfl rfl
    ·refine H.cond rfl (fun hnx => ?_) (fun hnx => ?_)
     ·skip
      repeat (first | ((apply H.Ac); (iterate 3 exact rfl)) | (first | apply H.seq | apply H.Ab))
      refine H.call rfl rfl rfl (wnext_fn e _ (tab_mono htab hfe) (Le.refl e)) fun v f' A' hr => ?_
      obtain ⟨r, ws1, hn1, hr1, hsub, rfl, hff, rfl⟩ := hr
      rw [hff]
      have hn2 : ∀ {r2 : Option Msg} {vs1 : List MV}, NextR (fun m => chk n (strm (M.map MV.m)) m) (vs.map MV.m) r2 (vs1.map MV.m) → r.map MV.m = r2 ∧ (ws1.map MV.m).Perm (vs1.map MV.m) := fun {r2 vs1} h =>
       NextR.same hP.ku hP.p (fun x _ y _ hx hy h => chk_uniq hx hy h) hn1 (by rw [hLM]; exact h)
      have hwl1 : ws1.length ≤ i := by
       have h1 := hn1.le
       rw [List.length_map, List.length_map] at h1
       omega
      cases r with
      | none =>
       have hnn : NextR (chk n (strm (L.map MV.m))) (ws.map MV.m) none (ws1.map MV.m) := hn1
       repeat (first | ((apply H.Ac); (iterate 3 exact rfl)) | ((apply H.Cc); (iterate 4 exact rfl)))
       refine H.Bg (ls := msgZ.vals none 0) rfl rfl rfl fun zb => ?_
       refine H.Bb (ls := msgZ.vals none 0) (vs := msgZ.vals none 0) (ls' := msgZ.vals none 0) rfl rfl rfl (zad rfl) rfl rfl (Nat.le_refl 121) (.here _ _ _) ?_
       repeat (first | ((first | apply H.Ac | apply H.Ad); (iterate 3 exact rfl)) | (first | apply H.seq | apply H.Ab | apply H.nil | apply H.Aa))
       refine H.Ae (x := refL _ _ _ _) (by repeat constructor) ?_
       refine H.Ae (x := waitR _ _ _) (by repeat constructor) ?_
       refine H.call rfl rfl rfl (rwnext_fn e _ (Le.refl e) (Le.refl e)) fun v f' A' hr => ?_
       obtain ⟨r2, y2, vs1, hnd, hym, hyg, _, hvl, rfl, hff, rfl⟩ := hr
       rw [hff]
       obtain ⟨e9, hperm⟩ := hn2 hnd
       subst e9
       have hym : y2.m = msgZ := hym
       have hsz : ∀ G, Fn Tryz.prog 30 [.agg (msgZ.vals none 0).toArray, .agg y2.vals.toArray] e G (Ret (.bool true) e G) := fun G => by
        have h := rsameM_fn e G (x := ⟨msgZ, none, 0⟩) (msgZ_good e) hyg
        rw [hym, Msg.eqB_refl] at h
        exact h
       repeat (first | ((apply H.Ac); (iterate 3 exact rfl)) | ((apply H.Cc); (iterate 4 exact rfl)))
       refine H.Bg (ls := msgZ.vals none 0) rfl rfl rfl fun zb2 => ?_
       refine H.Bb (ls := msgZ.vals none 0) (vs := y2.vals) (ls' := y2.vals) rfl rfl rfl (zad rfl) rfl rfl (Nat.le_refl 121) (.here _ _ _) ?_
       refine H.Ae (x := row zb _ _) (by repeat constructor) ?_
       refine H.Ae (x := row zb2 _ _) (by repeat constructor) ?_
       repeat (first | ((first | apply H.Ac | apply H.Ad); (iterate 3 exact rfl)) | (first | apply H.seq | apply H.Ab | apply H.nil | apply H.Aa))
       refine H.bne (b := false) rfl rfl rfl rfl rfl rfl ?_
       repeat (((apply H.Ac); (iterate 3 exact rfl)))
       refine H.Al (ls := msgZ.vals none 0) rfl rfl rfl (Rd.ofRow (.there _ (.here _ _ _))) rfl rfl ?_
       refine H.Al (ls := y2.vals) rfl rfl rfl (Rd.ofRow (.here _ _ _)) rfl rfl ?_
       refine H.Am rfl rfl rfl (hsz _) ?_
       refine H.not (b := true) (c := false) rfl rfl rfl rfl ?_
       repeat (first | ((apply H.Ac); (iterate 3 exact rfl)) | (first | apply H.seq | apply H.Ab | apply H.nil | apply H.Aa) | (apply H.Bd; (iterate 2 exact rfl)) | ((apply H.Ay); (iterate 4 exact rfl)) | (apply H.Av; exact rfl) | (apply H.Ak))
       refine H.Ah (.here _ _) ?_
       refine H.Ah (.here _ _) ?_
       refine H.Ae (x := refL _ _ _ _) (by repeat constructor) ?_
       refine H.Ae (x := waitR _ _ _) (by repeat constructor) ?_
       refine H.Ae (x := loreH _ _ _ _) (by repeat constructor) ?_
       refine H.Ae (x := waitH _ _ _) (by repeat constructor) ?_
       exact H.meet ⟨e, L, M, ws1, vs1⟩ ⟨hle, hLM, by show L.length ≤ i + 1; omega, hperm, hnn.ku hP.ku, by show ws1.length ≤ i + 1; omega⟩ ⟨rfl, rfl, rfl, rfl, rfl, rfl, rfl, trivial⟩ rfl rfl
      | some y =>
       have hnn : NextR (chk n (strm (L.map MV.m))) (ws.map MV.m) (some y.m) (ws1.map MV.m) := hn1
       have hyg : y.Good e := (hr1 y rfl).2
       have h0 : chk n (strm (L.map MV.m)) y.m = 0 := hnn.zero
       repeat (first | ((apply H.Ac); (iterate 3 exact rfl)) | ((apply H.Cc); (iterate 4 exact rfl)))
       refine H.Bg (ls := msgZ.vals none 0) rfl rfl rfl fun zb => ?_
       refine H.Bb (ls := msgZ.vals none 0) (vs := y.vals) (ls' := y.vals) rfl rfl rfl (zad rfl) rfl rfl (Nat.le_refl 121) (.here _ _ _) ?_
       repeat (first | ((first | apply H.Ac | apply H.Ad); (iterate 3 exact rfl)) | (first | apply H.seq | apply H.Ab | apply H.nil | apply H.Aa))
       refine H.Ae (x := refL _ _ _ _) (by repeat constructor) ?_
       refine H.Ae (x := waitR _ _ _) (by repeat constructor) ?_
       refine H.call rfl rfl rfl (rwnext_fn e _ (Le.refl e) (Le.refl e)) fun v f' A' hr => ?_
       obtain ⟨r2, y2, vs1, hnd, hym, hy2g, hy2p, hvl, rfl, hff, rfl⟩ := hr
       rw [hff]
       obtain ⟨e9, hperm⟩ := hn2 hnd
       subst e9
       have hym : y2.m = y.m := hym
       have hpos := (hy2p rfl).1
       have hsz : ∀ G, Fn Tryz.prog 30 [.agg y.vals.toArray, .agg y2.vals.toArray] e G (Ret (.bool true) e G) := fun G => by
        have h := rsameM_fn e G hyg hy2g
        rw [hym, Msg.eqB_refl] at h
        exact h
       have h02 : chk n (strm (L.map MV.m)) y2.m = 0 := by rw [hym]; exact h0
       repeat (first | ((apply H.Ac); (iterate 3 exact rfl)) | ((apply H.Cc); (iterate 4 exact rfl)))
       refine H.Bg (ls := msgZ.vals none 0) rfl rfl rfl fun zb2 => ?_
       refine H.Bb (ls := msgZ.vals none 0) (vs := y2.vals) (ls' := y2.vals) rfl rfl rfl (zad rfl) rfl rfl (Nat.le_refl 121) (.here _ _ _) ?_
       refine H.Ae (x := row zb _ _) (by repeat constructor) ?_
       refine H.Ae (x := row zb2 _ _) (by repeat constructor) ?_
       repeat (first | ((first | apply H.Ac | apply H.Ad); (iterate 3 exact rfl)) | (first | apply H.seq | apply H.Ab | apply H.nil | apply H.Aa))
       refine H.bne (b := false) rfl rfl rfl rfl rfl rfl ?_
       repeat (((apply H.Ac); (iterate 3 exact rfl)))
       refine H.Al (ls := y.vals) rfl rfl rfl (Rd.ofRow (.there _ (.here _ _ _))) rfl rfl ?_
       refine H.Al (ls := y2.vals) rfl rfl rfl (Rd.ofRow (.here _ _ _)) rfl rfl ?_
       refine H.Am rfl rfl rfl (hsz _) ?_
       refine H.not (b := true) (c := false) rfl rfl rfl rfl ?_
       repeat (first | ((apply H.Ac); (iterate 3 exact rfl)) | (first | apply H.seq | apply H.Ab | apply H.nil | apply H.Aa) | ((apply H.Ay); (iterate 4 exact rfl)) | (apply H.Av; exact rfl) | (apply H.Ak))
       refine H.Bs (i := i) rfl rfl rfl rfl hlt rfl ?_
       repeat ((apply H.Ag; (iterate 3 exact rfl); exact inferInstance; exact rfl))
       cases htk : s.take with
       | false =>
        refine H.Af (v := .bool false) rfl rfl rfl (Rd1.of (i := 1) (rd _) (by show some (Value.bool s.take) = _; rw [htk])) rfl ?_
        repeat (first | ((apply H.Ac); (iterate 3 exact rfl)) | (first | apply H.nil | apply H.Aa) | (apply H.Bd; (iterate 2 exact rfl)) | (apply H.Ax; (iterate 4 exact rfl)) | ((apply H.Ay); (iterate 4 exact rfl)) | (apply H.Av; exact rfl) | (apply H.Ak))
        refine H.Ah (.here _ _) ?_
        refine H.Ah (.here _ _) ?_
        refine H.Ae (x := refL _ _ _ _) (by repeat constructor) ?_
        refine H.Ae (x := waitR _ _ _) (by repeat constructor) ?_
        refine H.Ae (x := loreH _ _ _ _) (by repeat constructor) ?_
        refine H.Ae (x := waitH _ _ _) (by repeat constructor) ?_
        exact H.meet ⟨e, L, M, ws1, vs1⟩ ⟨hle, hLM, by show L.length ≤ i + 1; omega, hperm, hnn.ku hP.ku, by show ws1.length ≤ i + 1; omega⟩ ⟨rfl, rfl, rfl, rfl, rfl, rfl, rfl, trivial⟩ rfl rfl
       | true =>
        refine H.Af (v := .bool true) rfl rfl rfl (Rd1.of (i := 1) (rd _) (by show some (Value.bool s.take) = _; rw [htk])) rfl ?_
        repeat (first | ((apply H.Ac); (iterate 3 exact rfl)) | (apply H.Ax; (iterate 4 exact rfl)))
        refine H.Al (ls := y2.vals) rfl rfl rfl (Rd.ofRow (.here _ _ _)) rfl rfl ?_
        refine H.Ae (x := loreH _ _ _ _) (by repeat constructor) ?_
        refine H.call (R := AddP e _ la n L y2.m) rfl rfl rfl (ladd_fn e _ (tab_mono htab hfe) (Le.refl e) hy2g (by omega)) fun v f' A' hr => ?_
        obtain ⟨g3, q3, c3, rfl, hd3, rfl, rfl⟩ := hr
        rw [h02, if_pos rfl]
        have up3 := Le.un e g3
        generalize un e g3 = e3 at up3 ⊢
        have hradd : ∀ G, Fn Tryz.prog 27 [.pointer (some ⟨rb, 0, none⟩), .agg y2.vals.toArray] e3 (refL e rb n M :: G) (Ret (.int .i64 0) e3 (refL e rb n (M ++ [y2]) :: G)) := fun G => by
         have h := rladd_fn e3 G up3 (rb := rb) (n := n) (l := M) hy2g hpos (by omega)
         rw [← hLM, h02, if_pos rfl] at h
         exact h
        repeat (first | ((apply H.Ac); (iterate 3 exact rfl)) | ((apply H.cmp); (iterate 5 exact rfl)) | (apply H.gno; (iterate 3 exact rfl); (omega)))
        refine H.Ae (x := row zb2 _ _) (by repeat constructor) ?_
        refine H.Al (ls := y2.vals) rfl rfl rfl (Rd.ofRow (.here _ _ _)) rfl rfl ?_
        refine H.Ae (x := refL _ _ _ _) (by repeat constructor) ?_
        refine H.Am rfl rfl rfl (hradd _) ?_
        repeat (first | (first | apply H.nil | apply H.Aa) | ((apply H.cmp); (iterate 5 exact rfl)) | (apply H.Ax; (iterate 4 exact rfl)) | ((apply H.Ay); (iterate 4 exact rfl)) | (apply H.Av; exact rfl) | (apply H.Ak))
        refine H.Ah (x := row zb2 _ _) (by repeat constructor) ?_
        refine H.Ah (x := row zb _ _) (by repeat constructor) ?_
        refine H.Ae (x := refL _ _ _ _) (by repeat constructor) ?_
        refine H.imp (ref_up up3) ?_
        refine H.Ae (x := waitR _ _ _) (by repeat constructor) ?_
        refine H.imp (waitR_up up3) ?_
        refine H.Ae (x := waitH _ _ _) (by repeat constructor) ?_
        refine H.imp (wait_up up3) ?_
        refine H.Ae (x := refL _ _ _ _) (by repeat constructor) ?_
        refine H.Ae (x := waitR _ _ _) (by repeat constructor) ?_
        refine H.Ae (x := loreH _ _ _ _) (by repeat constructor) ?_
        refine H.Ae (x := waitH _ _ _) (by repeat constructor) ?_
        exact H.meet ⟨e3, L ++ [⟨y2.m, q3, c3⟩], M ++ [y2], ws1, vs1⟩ ⟨hle.trans up3, by show (L ++ [(⟨y2.m, q3, c3⟩ : MV)]).map MV.m = (M ++ [y2]).map MV.m; rw [List.map_append, List.map_append, hLM]; rfl, by show (L ++ [(⟨y2.m, q3, c3⟩ : MV)]).length ≤ i + 1; rw [List.length_append]; show L.length + 1 ≤ _; omega, hperm, hnn.ku hP.ku, by show ws1.length ≤ i + 1; omega⟩ ⟨rfl, rfl, rfl, rfl, rfl, rfl, rfl, trivial⟩ rfl rfl
     ·skip
      have hsx := hsg2.1.mono hfe
      repeat (first | ((apply H.Ac); (iterate 3 exact rfl)) | (first | apply H.seq | apply H.Ab))
      refine H.Bs (i := i) rfl rfl rfl rfl hlt rfl ?_
      repeat ((apply H.Ag; (iterate 3 exact rfl); exact inferInstance; exact rfl))
      refine H.Al (ls := s.x.vals) rfl rfl rfl (Rd.sub (pre := [.bool s.next, .bool s.take, .bool s.raw, .int .u8 (s.pick.toNat : Nat)]) (l := s.x.vals) (post := []) (by rw [List.append_nil]; exact rd _) rfl) rfl rfl ?_
      refine H.Bg (ls := msgZ.vals none 0) rfl rfl rfl fun mb => ?_
      refine H.Bb (ls := msgZ.vals none 0) (vs := s.x.vals) (ls' := s.x.vals) rfl rfl rfl (zad rfl) rfl rfl (Nat.le_refl 121) (.here _ _ _) ?_
      refine H.nil ?_
      refine H.Aa ?_
      refine H.seq ?_
      refine H.cut (ι := MV) (fun _ => [(19, .pointer (some ⟨mb, 0, none⟩)), (14, .int .i64 (i : Int)), (2, .slice (some ⟨b, off, none⟩) ss.length sc), (7, .pointer (some ⟨wb, 0, none⟩)), (8, .pointer (some ⟨la, 0, none⟩)), (10, .pointer (some ⟨rb, 0, none⟩)), (12, .pointer (some ⟨xb, 0, none⟩)), (13, .pointer (some ⟨yb, 0, none⟩))]) (fun _ => e) (fun y => row mb 47 y.vals :: waitH e xb ws :: loreH e la n L :: waitR e yb vs :: refL e rb n M :: row wb 34 (worldC kb n ap l.length ac) :: F) (fun y => y.Good e ∧ Pos y.m) _ (fun y hy => ?_) ?_
      ·obtain ⟨hyg, hpos⟩ := hy
       show H _ _ _ [_, (14, .int .i64 (i : Int)), _, _, _, _, _, _] e (row mb 47 y.vals :: waitH e xb ws :: loreH e la n L :: waitR e yb vs :: refL e rb n M :: _ :: F) _
       repeat ((apply H.seq))
       refine H.Bt (by kernel_rfl) (by decide +kernel) (by repeat (first | exact zab | refine zaa ?_ | refine zac ?_ | refine zae ?_)) (S := [_]) rfl ?_
       refine HB.Aq [(0, false), (1, false), (2, false), (4, false), (5, false), (6, false)] 3 (by kernel_rfl) ?_
       repeat (first | (refine HQ.Al (ls := y.vals) rfl rfl rfl (Rd.ofRow (.here _ _ _)) rfl rfl ?_) | ((apply HQ.Ac); (iterate 3 exact rfl)))
       refine HQ.Ap rfl ?_
       refine HB.ev1 (i := 3) (by kernel_rfl) rfl ?_
       refine H.Ae (x := loreH _ _ _ _) (by repeat constructor) ?_
       refine H.Ae (x := waitH _ _ _) (by repeat constructor) ?_
       refine H.call rfl rfl rfl (wput_fn e _ (tab_mono htab hfe) (Le.refl e) hyg (by omega)) fun v f' A' hr => ?_
       obtain ⟨g1, z, ws1, hp1, hl1, hd1, rfl, rfl, rfl⟩ := hr
       have hup := Le.un e g1
       generalize un e g1 = e1 at hup ⊢
       repeat ((apply H.nil))
       refine H.Ae (x := row mb _ _) (by repeat constructor) ?_
       refine H.on [] hup rfl ?_
       refine HB.ev1 (i := 7) (by kernel_rfl) rfl ?_
       refine H.Ae (x := refL _ _ _ _) (by repeat constructor) ?_
       refine H.Ae (x := waitR _ _ _) (by repeat constructor) ?_
       refine H.call rfl rfl rfl (rwput_fn e1 _ hup hup hyg hpos (by omega)) fun v f' A' hr => ?_
       obtain ⟨z2, vs1, hp2, hl2, rfl, hff, rfl⟩ := hr
       rw [hff]
       rw [← hLM] at hp2
       obtain ⟨hz, hperm⟩ := PutR.same hP.ku hP.p hp1 hp2
       subst hz
       have hku1 := hp1.ku hP.ku
       clear hp1 hp2
       repeat ((apply H.nil))
       refine H.Ae (x := row mb _ _) (by repeat constructor) ?_
       refine H.on0 rfl ?_
       refine HB.Aq [(8, false)] 0 (by kernel_rfl) ?_
       repeat (((apply HQ.cmp); (iterate 5 exact rfl)))
       refine HQ.Ap rfl ?_
       refine HB.Bf (by kernel_rfl) ?_
       repeat (first | (apply H.Aa) | (apply H.Ak) | (apply H.Aw; exact rfl; (omega)))
       refine H.Ah (x := row mb _ _) (by repeat constructor) ?_
       refine H.Ae (x := refL _ _ _ _) (by repeat constructor) ?_
       refine H.imp (ref_up hup) ?_
       refine H.Ae (x := waitR _ _ _) (by repeat constructor) ?_
       refine H.imp (waitR_up hup) ?_
       refine H.Ae (x := loreH _ _ _ _) (by repeat constructor) ?_
       refine H.imp (lore_upW hup) ?_
       refine H.Ae (x := refL _ _ _ _) (by repeat constructor) ?_
       refine H.Ae (x := waitR _ _ _) (by repeat constructor) ?_
       refine H.Ae (x := loreH _ _ _ _) (by repeat constructor) ?_
       refine H.Ae (x := waitH _ _ _) (by repeat constructor) ?_
       exact H.meet ⟨e1, L, M, ws1, vs1⟩ ⟨hle.trans hup, hLM, by show L.length ≤ i + 1; omega, hperm, hku1, by show ws1.length ≤ i + 1; omega⟩ ⟨rfl, rfl, rfl, rfl, rfl, rfl, rfl, trivial⟩ rfl rfl
      ·skip
       repeat (first | ((apply H.Ac); (iterate 3 exact rfl)) | (first | apply H.seq | apply H.Ab))
       refine H.Bs (i := i) rfl rfl rfl rfl hlt rfl ?_
       repeat ((apply H.Ag; (iterate 3 exact rfl); exact inferInstance; exact rfl))
       cases hrw : s.raw with
       | true =>
        refine H.Af (v := .bool true) rfl rfl rfl (Rd1.of (i := 2) (rd _) (by show some (Value.bool s.raw) = _; rw [hrw])) rfl ?_
        refine H.not (b := true) (c := false) rfl rfl rfl rfl ?_
        repeat (first | ((first | apply H.Ac | apply H.Ar | apply H.Az); (iterate 3 exact rfl)) | (first | apply H.nil | apply H.Aa) | (apply H.Bd; (iterate 2 exact rfl)) | ((apply H.Ay); (iterate 4 exact rfl)) | (apply H.Av; exact rfl) | (apply H.Ak))
        exact H.meet s.x ⟨hsx, hsg2.2⟩ ⟨rfl, rfl, rfl, rfl, rfl, rfl, rfl, rfl, trivial⟩ rfl rfl
       | false =>
        refine H.Af (v := .bool false) rfl rfl rfl (Rd1.of (i := 2) (rd _) (by show some (Value.bool s.raw) = _; rw [hrw])) rfl ?_
        refine H.not (b := false) (c := true) rfl rfl rfl rfl ?_
        by_cases hal : 0 < l.length
        ·skip
         repeat (first | ((first | apply H.Ac | apply H.Ar | apply H.Az); (iterate 3 exact rfl)) | (apply H.Ag; (iterate 3 exact rfl); exact inferInstance; exact rfl) | (apply H.Af; (iterate 3 exact rfl); apply Rd1.ofRow; (repeat (first | exact .here _ _ _ | apply At.there)); (iterate 2 exact rfl)) | (first | apply H.nil | apply H.Aa) | ((apply H.cmp); (iterate 5 exact rfl)) | (apply H.Ax; (iterate 4 exact rfl)) | (apply H.Au; exact rfl; (omega)))
         obtain ⟨k, hke⟩ : ∃ k, k = s.pick.toNat % l.length := ⟨_, rfl⟩
         have hk : k < l.length := by rw [hke]; exact Nat.mod_lt _ hal
         have hpl := s.pick.toNat_lt
         obtain ⟨y, hy⟩ : ∃ y, l[k]? = some y := ⟨_, List.getElem?_eq_getElem hk⟩
         have hyl := hlg y (List.mem_of_getElem? hy)
         obtain ⟨ab, aoff, rfl, rdA⟩ := hla.all MV.len (by decide) hal
         have hal0 : ((l.length : Nat) : Int) ≠ 0 := by omega
         refine H.Ae (x := row wb _ _) (by repeat constructor) ?_
         refine H.Bt (by kernel_rfl) (by decide +kernel) (by repeat (first | exact zab | refine zaa ?_ | refine zac ?_ | refine zae ?_)) (S := [_]) rfl ?_
         refine HB.Aq [(0, false), (1, false), (2, false), (3, false), (4, false), (5, false), (6, false), (7, false), (8, false), (9, false), (10, false), (11, false), (12, false), (13, false), (14, false), (15, false), (16, false), (17, false)] 1 (by kernel_rfl) ?_
         repeat (first | ((first | apply HQ.Ac | apply HQ.Ar); (iterate 3 exact rfl)) | (apply HQ.Ag; (iterate 3 exact rfl); exact inferInstance; exact rfl) | (apply HQ.Af; (iterate 3 exact rfl); apply Rd1.ofRow; (repeat (exact .here _ _ _)); (iterate 2 exact rfl)))
         refine HQ.Bs (i := i) rfl rfl rfl rfl hlt rfl ?_
         repeat ((apply HQ.Ag; (iterate 3 exact rfl); exact inferInstance; exact rfl))
         refine HQ.Af rfl rfl rfl (Rd1.of (i := 3) (rd _) rfl) rfl ?_
         repeat (first | ((first | apply HQ.Ac | apply HQ.Ar | apply HQ.Az); (iterate 3 exact rfl)) | (apply HQ.Ag; (iterate 3 exact rfl); exact inferInstance; exact rfl) | (apply HQ.Af; (iterate 3 exact rfl); apply Rd1.ofRow; (repeat (exact .here _ _ _)); (iterate 2 exact rfl)) | ((apply HQ.Bp; (iterate 2 exact rfl)); (with_reducible apply wr_i64; omega); exact rfl))
         refine HQ.rem (z := ((k : Nat) : Int)) rfl rfl rfl hal0 (zat (a := s.pick.toNat) (b := l.length) hke.symm) rfl ?_
         refine HQ.Bs (i := k) rfl rfl rfl rfl hk rfl ?_
         refine HQ.Al (ls := y.vals) rfl rfl rfl (rdA _ _ _ _ hle hy) rfl rfl ?_
         refine HQ.Ap rfl ?_
         refine HB.ev1 (i := 18) (by kernel_rfl) rfl ?_
         refine H.Ae (x := row mb _ _) (by repeat constructor) ?_
         refine H.Bb (ls := s.x.vals) (vs := y.vals) (ls' := y.vals) rfl rfl rfl (zad rfl) rfl rfl (Nat.le_refl 121) (.here _ _ _) ?_
         repeat ((apply H.nil))
         refine H.Ae (x := row wb _ _) (by repeat constructor) ?_
         refine H.on0 rfl ?_
         refine HB.Bf (by kernel_rfl) ?_
         skip
         refine H.Ae (x := refL _ _ _ _) (by repeat constructor) ?_
         refine H.Ae (x := waitR _ _ _) (by repeat constructor) ?_
         refine H.Ae (x := loreH _ _ _ _) (by repeat constructor) ?_
         refine H.Ae (x := waitH _ _ _) (by repeat constructor) ?_
         refine H.Ae (x := row mb _ _) (by repeat constructor) ?_
         exact H.meet y ⟨hyl.1.mono hle, hyl.2⟩ ⟨rfl, rfl, rfl, rfl, rfl, rfl, rfl, rfl, trivial⟩ rfl rfl
        ·skip
         repeat (first | ((first | apply H.Ac | apply H.Ar | apply H.Az); (iterate 3 exact rfl)) | (apply H.Ag; (iterate 3 exact rfl); exact inferInstance; exact rfl) | (apply H.Af; (iterate 3 exact rfl); apply Rd1.ofRow; (repeat (first | exact .here _ _ _ | apply At.there)); (iterate 2 exact rfl)) | (first | apply H.nil | apply H.Aa) | ((apply H.cmp); (iterate 5 exact rfl)) | (apply H.Ax; (iterate 4 exact rfl)) | (apply H.Ak) | (apply H.Aw; exact rfl; (omega)))
         exact H.meet s.x ⟨hsx, hsg2.2⟩ ⟨rfl, rfl, rfl, rfl, rfl, rfl, rfl, rfl, trivial⟩ rfl rfl
   ·skip
    repeat (first | ((first | apply H.Ac | apply H.Az); (iterate 3 exact rfl)) | (first | apply H.seq | apply H.Ab | apply H.nil | apply H.Aa) | ((apply H.cmp); (iterate 5 exact rfl)) | (first | apply H.Bl | apply H.Bj | apply H.Bk | apply H.Bm) | (apply H.Aw; exact rfl; (omega)))
    refine H.Am rfl rfl rfl (works13_fn e _ (tab_mono htab hfe)) ?_
    repeat (first | ((apply H.Ad); (iterate 3 exact rfl)) | (first | apply H.nil | apply H.Aa) | (apply H.ret))
    refine H.weakL hfe ?_
    refine H.Ah (.here _ _) ?_
    refine H.Ah (.here _ _) ?_
    refine H.Ah (.here _ _) ?_
    refine H.Ah (.here _ _) ?_
    refine H.Ah (.here _ _) ?_
    exact H.Aj rfl rfl (fun _ h => h) ⟨rfl, rfl, rfl⟩
end
end Go.Proofs.YtoigpgdmignaoaaGreatDoor

namespace Go.Proofs.YtoigpgdmignaoaaGreatDoor
open Go Go.ChangeShapes Go.WideShapes Go.RowKit Go.Deep
theorem Tryz.own : ownKnob Tryz.prog.godebug = none := by kernel_rfl
theorem Tryz.laidOut : laidOutB Tryz.prog = true := by kernel_rfl
abbrev laidL : List (String × DataW Unit) := [("ratchet/sha.table", Rows.laid_ratchet_sha_table)]
theorem door_met (os : Os) (args : Array Value) : laidMetH Tryz.prog laidL ((World.doorLaid Tryz.prog 400 os).forCall (fun _ _ => 0) ⟨#[], args, []⟩).memory :=
 laidMetH_of_parts3 (fuel := 8) (laidMet_of_run' 8 (by kernel_rfl) (by kernel_rfl)) (by kernel_rfl) (by kernel_rfl)
theorem tab_eq : (Rows.laid_ratchet_sha_table : DataW Unit) = .agg ((Sha.k.map fun x => ((x.toNat : Nat) : Int)).map fun z => .lit (.int .u32 z)) := by kernel_rfl
theorem tab_of {W : World} (h : laidMetH Tryz.prog laidL W) : TabAt (memOf W) := by
 have h2 : laidMetH Tryz.prog [("ratchet/sha.table", .agg ((Sha.k.map fun x => ((x.toNat : Nat) : Int)).map fun z => .lit (.int .u32 z)))] W := by rw [← tab_eq]; exact h
 exact laid_ints h2 (by kernel_rfl) (by kernel_rfl) (t := 252) (e := 222) Tryz.underlying252 Tryz.underlying222 (by kernel_rfl)
end Go.Proofs.YtoigpgdmignaoaaGreatDoor
