/- Parts of the proof, one behind the other, each under its own heading. No conditions. -/
import Derived.Test.YtdcjlgigcbinjaaGreatDoorZ04
import Derived.Laws.MakeOwn
import Derived.OpenShut
import Derived.Test.YtdcjlgigcbinjaaGreatDoorRows
set_option linter.unusedSectionVars false
set_option linter.unusedSimpArgs false
set_option linter.unusedVariables false
/- Layer 3: the program's tags: digest of two parts, a key turned. Condition: the table of the standard stands in the fragment. -/
namespace Go.Proofs.YtdcjlgigcbinjaaGreatDoor
open Go
section rules
variable {P : Program} {base : World} {n : Nat} {L : Env} {f : Frag} {A : List HP} {q : Post}
variable {l rest : List Oper} {d : Nat} {ty : TypeId} {pos : String} {af : Array Edge} {gd : Option (Nat × Bool)}
theorem H.makeS {t e : TypeId} {x y : Operand} {kl kc : IntKind} {u v : Int} {m sz bytes : Nat} {z : Value} {zs : List Value} [hu : Und P t (.slice e)] [hsz : Siz P e sz] [hb : Byt P e bytes] [hz : Zer P e z] (hw : want? l L gd = true)
  (hx : ev? L x = some (.int kl u)) (hy : ev? L y = some (.int kc v)) (hum : u = (m : Nat)) (hvm : v = (m : Nat)) (hzs : cellsL z = zs) (h0 : zs.length = sz) (h1 : 0 < sz) (hm : bytes * m ≤ 281474976710656) (h63 : m ≤ 9223372036854775807) (hd : Nat.ble (d + 1) n = true)
  (k : ∀ b, H P base n ((d, .slice (some ⟨b, 0, none⟩) m m) :: L) f (row b e (zeros zs m) :: A) (.ops l rest q)) : H P base n L f A (.ops l (⟨some d, .makeSlice t x y, ty, pos, af, gd⟩ :: rest) q) :=
 H.opE (fun b => .slice (some ⟨b, 0, none⟩) m m) (fun _ => f) (fun b => row b e (zeros zs m) :: A) (fun _ => True) hw hd (fun a w hfr s => by
  subst hzs; subst h0; subst hum; subst hvm
  obtain ⟨i, hi, hi1, hi2, hi3⟩ := info_of hsz hb hz
  have h4 : z.cells = (cellsL z).toArray := by rw [← cellsL_eq]
  have e1 := zeros_array (cellsL z) m h1
  refine ⟨w.heap.size, w.alloc (.cells (zeros (cellsL z) m).toArray e (0, 0)), trivial, ?_, s.alloc rfl rfl rfl rfl⟩
  have hbm : ((bytes * m : Nat) : Int) ≤ 281474976710656 := by omega
  rw [Int.natCast_mul] at hbm
  have hr := run_make (P := P) w t e i z hu.eq hi hi3 kl kc (m : Int) (m : Int) (by omega) (Int.le_refl _) (by rw [hi2]; exact hbm) (by omega)
  rw [Int.toNat_natCast, hi1, h4] at hr
  unfold madeCells at hr
  rw [e1] at hr
  show Sem.run P (Instr.makeSlice t (a.eval x) (a.eval y) >>= fun v => pure (Next.value v)) w = _
  simp only [hfr.eval hx, hfr.eval hy, Sem.run_bind, hr, Result.andThen_ok, Sem.run_pure]) (fun b _ => k b)
end rules
theorem strRow_bat {b c : Nat} {s : ByteArray} {T : TypeId} {f g : Frag} (h : strRow b s c T g) (hd : Dj f g) : BAt (un f g) (some ⟨b, 0, none⟩) s.data.toList := by
 have hg : g = sing b (.cells (bytesRow s c) T ((bytesRow s c).size, (bytesRow s c).size + 1)) := h
 refine .inr ⟨b, 0, bytesRow s c, T, ((bytesRow s c).size, (bytesRow s c).size + 1), rfl, ?_, fun i hi => ?_⟩
 ·have : f b = none := by
   rcases hd b with h | h
   ·exact h
   ·rw [hg] at h
    simp [sing] at h
  unfold un
  rw [this, hg]
  simp [sing]
 ·rw [Nat.zero_add]
  exact bytesRow_get s c (by rw [zap] at hi; exact hi)
theorem zeros_one (z : Value) : ∀ n : Nat, zeros [z] n = List.replicate n z
 | 0 => rfl
 | n + 1 => by rw [List.replicate_succ, ← zeros_one z n]; rfl
def parts2 (a b : List UInt8) : Nat → List UInt8
 | 0 => []
 | 1 => a
 | _ => a ++ b
def pt2 (pb : Nat) (p : Option Addr) (m c : Nat) (q : Option Addr) (k d : Nat) : HP := row pb 25 [.slice p m c, .slice q k d]
section
variable (f : Frag) (F : List HP)
theorem tdig_fn (htab : TabAt f) {pb : Nat} {p q : Option Addr} {c d : Nat} {a b : List UInt8} (ha : BAt f p a) (hb : BAt f q b) (hc : a.length ≤ c) (hd : b.length ≤ d) (hl : a.length + b.length ≤ 100000000) :
  Fn Tryz.prog 202 [.slice (some ⟨pb, 0, none⟩) 2 2] f (pt2 pb p a.length c q b.length d :: F) (Ret (.agg (b32 (Sha.sum (a ++ b))).toArray) f (pt2 pb p a.length c q b.length d :: F)) := by
 unfold pt2
 refine Fn.enter Tryz.func202 rfl Tryz.ntmps202 rfl (L := [(0, _)]) ⟨rfl, trivial⟩ fun base => ?_
 refine gA ?_
 refine H.Av (ls := zb 32) rfl rfl rfl fun ob => ?_
 refine gA ?_
 refine H.callE rfl rfl rfl (snew_fn f _) fun hb' => ?_
 refine ga ?_
 refine H.Ax (ι := Nat) (fun i => [(9, .int .i64 (i : Int)), (8, .int .i64 ((2 : Nat) : Int)), (7, .slice (some ⟨pb, 0, none⟩) 2 2), (3, .pointer (some ⟨hb', 0, none⟩)), (2, .pointer (some ⟨ob, 0, none⟩))]) (fun _ => f)
  (fun i => hashH hb' (parts2 a b i) :: row ob 47 (zb 32) :: row pb 25 [.slice p a.length c, .slice q b.length d] :: F) (fun i => i ≤ 2) (fun i => 2 - i) 0 (Nat.zero_le _) ⟨rfl, rfl, rfl, rfl, rfl, trivial⟩ rfl rfl fun i hi => ?_
 have hi : i ≤ 2 := hi
 match i, hi with
 | 0, _ =>
  refine gS ?_
  refine H.index1 (i := 0) rfl rfl rfl rfl (by decide) rfl ?_
  refine H.Ag rfl rfl rfl (Rd1.ofRow (by repeat constructor) rfl) rfl ?_
  refine gU ?_
  refine H.Ad rfl rfl rfl (swrite_fn f _ htab (b := []) ha hc (by show 0 + a.length ≤ _; omega)) ?_
  refine gK ?_
  exact H.Au 1 (by decide) (by decide) ⟨rfl, rfl, rfl, rfl, rfl, trivial⟩ rfl rfl
 | 1, _ =>
  refine gS ?_
  refine H.index1 (i := 1) rfl rfl rfl rfl (by decide) rfl ?_
  refine H.Ag rfl rfl rfl (Rd1.ofRow (by repeat constructor) rfl) rfl ?_
  refine gU ?_
  refine H.Ad rfl rfl rfl (swrite_fn f _ htab (b := a) hb hd (by omega)) ?_
  refine gK ?_
  exact H.Au 2 (by decide) (by decide) ⟨rfl, rfl, rfl, rfl, rfl, trivial⟩ rfl rfl
 | 2, _ =>
  have e2 : a ++ b = parts2 a b 2 := rfl
  have hpl : (parts2 a b 2).length ≤ 1000000000 := by show (a ++ b).length ≤ _; rw [List.length_append]; omega
  rw [e2]
  show H _ _ _ _ _ (hashH hb' (parts2 a b 2) :: _) _
  generalize parts2 a b 2 = ab at hpl ⊢
  refine gH ?_
  refine H.Ad rfl rfl rfl (hsum_fn f _ htab (b := ab) hpl) ?_
  refine H.Ap (ls := zb 32) (vs := b32 (Sha.sum ab)) (ls' := b32 (Sha.sum ab)) rfl rfl rfl (zae rfl) rfl rfl (Nat.le_refl 32) (by repeat constructor) ?_
  refine ga ?_
  refine H.Ab (x := hashH _ _) (by repeat constructor) ?_
  exact H.retD rfl rfl rfl (Rd.ofRow (by repeat constructor)) rfl (fun _ s => s.drop (.here _ _)) ⟨rfl, rfl, rfl⟩
theorem turned_fn {p : Option Addr} {c : Nat} {key : List UInt8} {t : UInt8} (hk : BAt f p key) (hl : key.length ≤ 64) :
  Fn Tryz.prog 203 [.slice p key.length c, .int .u8 (t.toNat : Nat)] f F (BytesR (Sha.turn key t) f F) := by
 have hfirst := fun A => BAt.first (P := Tryz.prog) (A := A) (c := c) hk (Nat.le_refl _)
 rw [List.take_length] at hfirst
 have hlen := (BAt.src (P := Tryz.prog) (A := []) (c := c) hk).len
 have hspl : splice (zb 64) 0 (bytesV key) = bytesV (Sha.full key) := by
  unfold splice Sha.full zb
  rw [List.take_zero, List.nil_append, zag, zaf, Nat.zero_add, List.drop_replicate]
  congr 1
  unfold bytesV
  rw [List.map_replicate]
  rfl
 have hfl := Sha.full_len hl
 have htl := Sha.turn_len hl t
 have hget : ∀ i, i < 64 → (Sha.turn key t).getD i 0 = (Sha.full key).getD i 0 ^^^ t := fun i hi => by
  unfold Sha.turn
  rw [List.getD_eq_getElem?_getD, List.getElem?_map, List.getElem?_eq_getElem (by rw [hfl]; exact hi), List.getD_eq_getElem?_getD, List.getElem?_eq_getElem (by rw [hfl]; exact hi)]
  rfl
 refine Fn.enter Tryz.func203 rfl Tryz.ntmps203 rfl (L := [(0, _), (1, _)]) ⟨rfl, rfl, trivial⟩ fun base => ?_
 refine gV ?_
 refine H.makeS (m := 64) (zs := [.int .u8 0]) rfl rfl rfl rfl rfl rfl rfl (by decide) (by decide) (by decide) rfl fun rb => ?_
 rw [show zeros [Value.int .u8 0] 64 = zb 64 from zeros_one _ _]
 refine gU ?_
 refine H.copy (k0 := key.length) (m := key.length) (cs := bytesV key) (ls := zb 64) (ls' := bytesV (Sha.full key)) rfl rfl rfl rfl hlen (Nat.min_eq_left hl) (hfirst _) hspl (by rw [zaf, show (zb 64).length = 64 from List.length_replicate]; omega) (zah _) (by repeat constructor) ?_
 refine H.asSlc (k := 64) (sz := 1) (by rw [zaf, hfl]) (by decide) ?_
 generalize Sha.full key = K at hfl hget hspl ⊢
 generalize Sha.turn key t = T at htl hget ⊢
 refine ga ?_
 refine H.Ax (ι := Nat) (fun i => [(19, .int .i64 (i : Int)), (6, .slice (some ⟨rb, 0, none⟩) 64 64), (1, .int .u8 (t.toNat : Nat))]) (fun _ => f)
  (fun i => slc (some ⟨rb, 0, none⟩) 64 64 5 1 ((bytesV T).take i ++ (bytesV K).drop i) :: F) (fun i => i ≤ 64) (fun i => 64 - i) 0 (Nat.zero_le _) ⟨rfl, rfl, rfl, trivial⟩ rfl rfl fun i hi => ?_
 have hi : i ≤ 64 := hi
 have hTK : (bytesV T).length = (bytesV K).length := by rw [zaf, zaf, hfl, htl]
 by_cases hli : i < 64
 ·have hset : SetV ((bytesV T).take i ++ (bytesV K).drop i) i (.int .u8 ((K.getD i 0 ^^^ t).toNat : Nat)) ((bytesV T).take (i + 1) ++ (bytesV K).drop (i + 1)) := by
   rw [← hget i hli]
   exact fill_set (zay (by omega)) hTK
  have hg : ((bytesV T).take i ++ (bytesV K).drop i)[i]? = some (.int .u8 ((K.getD i 0).toNat : Nat)) := fill_get2 (Nat.le_refl _) hTK (zay (by omega))
  show H _ _ _ _ _ (slc _ _ _ _ _ ((bytesV T).take i ++ (bytesV K).drop i) :: _) _
  refine gG ?_
  refine H.index1 (i := i) rfl rfl rfl rfl (by omega) rfl ?_
  refine H.Ag rfl rfl rfl (.of (Rd.ofSlc (.here _ _ _) (by omega)) hg) rfl ?_
  refine gU ?_
  refine H.Bj (op := .xor) rfl rfl rfl (u8_xor _ _) rfl rfl ?_
  refine H.index1 (i := i) rfl rfl rfl rfl (by omega) rfl ?_
  refine H.store_slc (xs' := (bytesV T).take (i + 1) ++ (bytesV K).drop (i + 1)) rfl rfl rfl rfl (.here _ _ _) (by rw [Nat.zero_add]; exact hset) ?_
  refine gK ?_
  exact H.Au (i + 1) (by show i + 1 ≤ 64; omega) (by show 64 - (i + 1) < 64 - i; omega) ⟨rfl, rfl, rfl, trivial⟩ rfl rfl
 ·have hi64 : i = 64 := by omega
  subst hi64
  have hfull : (bytesV T).take 64 ++ (bytesV K).drop 64 = bytesV T := by
   rw [List.take_of_length_le (by rw [zaf, htl]; exact Nat.le_refl _), List.drop_eq_nil_of_le (by rw [zaf, hfl]; exact Nat.le_refl _), List.append_nil]
  rw [hfull]
  refine gH ?_
  refine H.Ac rfl rfl (A' := slc (some ⟨rb, 0, none⟩) T.length 64 5 1 (bytesV T) :: F) ?_ ⟨_, 64, by rw [htl], rfl, rfl⟩
  rw [htl]
  exact fun _ h => h
end
section rules
variable {P : Program} {base : World} {n : Nat} {L : Env} {f : Frag} {A : List HP} {q : Post}
variable {l rest : List Oper} {d : Nat} {ty : TypeId} {pos : String} {af : Array Edge} {gd : Option (Nat × Bool)}
theorem H.convSBc {s t e : TypeId} {x : Operand} {bs : ByteArray} [hs : Und P s .string] [ht : Und P t (.slice e)] [he : Und P e (.int .u8)] (hw : want? l L gd = true) (hx : ev? L x = some (.string bs)) (hd : Nat.ble (d + 1) n = true)
  (k : ∀ b c, bs.size ≤ c → H P base n ((d, .slice (some ⟨b, 0, none⟩) bs.size c) :: L) f (strRow b bs c e :: A) (.ops l rest q)) : H P base n L f A (.ops l (⟨some d, .convert s t x, ty, pos, af, gd⟩ :: rest) q) :=
 H.opE (ι := Nat × Nat) (fun i => .slice (some ⟨i.1, 0, none⟩) bs.size i.2) (fun _ => f) (fun i => strRow i.1 bs i.2 e :: A) (fun i => bs.size ≤ i.2) hw hd (fun a w hfr s' => by
  have h1 := run_bytes_of_string (P := P) w s t e bs hs.eq ht.eq he.eq
  have h2 : (execOp a.eval ⟨some d, .convert s t x, ty, pos, af, gd⟩).run P w = .ok (.value (.slice (some ⟨w.heap.size, 0, none⟩) bs.size (grownCap w bs.size 0 e))) (w.drew.alloc (.cells (bytesRow bs (grownCap w bs.size 0 e)) e ((bytesRow bs (grownCap w bs.size 0 e)).size, (bytesRow bs (grownCap w bs.size 0 e)).size + 1))) := by
   simp only [execOp, hfr.eval hx, Sem.run_bind, h1, Result.andThen_ok, Sem.run_pure]
  exact ⟨(w.heap.size, grownCap w bs.size 0 e), _, grownCap_ge w bs.size 0 e, h2, Sat.alloc (w := w) s' rfl rfl rfl rfl⟩) (fun i hi => k i.1 i.2 hi)
end rules
section
variable (f : Frag) (F : List HP)
theorem tdig_sb (htab : TabAt f) {pb : Nat} {p q : Option Addr} {c d : Nat} {a b : List UInt8} (hb : BAt f q b) (hc : a.length ≤ c) (hd : b.length ≤ d) (hl : a.length + b.length ≤ 100000000) :
  Fn Tryz.prog 202 [.slice (some ⟨pb, 0, none⟩) 2 2] f (slc p a.length c 5 1 (bytesV a) :: pt2 pb p a.length c q b.length d :: F) (Ret (.agg (b32 (Sha.sum (a ++ b))).toArray) f (slc p a.length c 5 1 (bytesV a) :: pt2 pb p a.length c q b.length d :: F)) :=
 Fn.frozen fun g hg hj => tdig_fn (un f g) F (IntsAt.mono (Le.un f g) htab) (slc_bat _ hg hj) (BAt.mono (Le.un f g) hb) hc hd hl
theorem tdig_sr (htab : TabAt f) {pb ib : Nat} {p : Option Addr} {c d : Nat} {a b : List UInt8} {T : TypeId} (hc : a.length ≤ c) (hd : b.length ≤ d) (hl : a.length + b.length ≤ 100000000) :
  Fn Tryz.prog 202 [.slice (some ⟨pb, 0, none⟩) 2 2] f (slc p a.length c 5 1 (bytesV a) :: row ib T (bytesV b) :: pt2 pb p a.length c (some ⟨ib, 0, none⟩) b.length d :: F)
   (Ret (.agg (b32 (Sha.sum (a ++ b))).toArray) f (slc p a.length c 5 1 (bytesV a) :: row ib T (bytesV b) :: pt2 pb p a.length c (some ⟨ib, 0, none⟩) b.length d :: F)) :=
 Fn.frozen fun g hg hj => Fn.frozen fun g2 hg2 hj2 => tdig_fn (un (un f g) g2) F (IntsAt.mono (Le.un _ g2) (IntsAt.mono (Le.un f g) htab)) (BAt.mono (Le.un _ g2) (slc_bat _ hg hj)) (row_bat hg2 hj2) hc hd hl
theorem tdig_ts (htab : TabAt f) {pb sb : Nat} {p : Option Addr} {c d : Nat} {a : ByteArray} {b : List UInt8} {T : TypeId} (hc : a.size ≤ c) (hd : b.length ≤ d) (hl : a.size + b.length ≤ 100000000) :
  Fn Tryz.prog 202 [.slice (some ⟨pb, 0, none⟩) 2 2] f (strRow sb a c T :: slc p b.length d 5 1 (bytesV b) :: pt2 pb (some ⟨sb, 0, none⟩) a.size c p b.length d :: F)
   (Ret (.agg (b32 (Sha.sum (a.data.toList ++ b))).toArray) f (strRow sb a c T :: slc p b.length d 5 1 (bytesV b) :: pt2 pb (some ⟨sb, 0, none⟩) a.size c p b.length d :: F)) :=
 Fn.frozen fun g hg hj => Fn.frozen fun g2 hg2 hj2 => by
  have h := tdig_fn (un (un f g) g2) F (pb := pb) (c := c) (IntsAt.mono (Le.un _ g2) (IntsAt.mono (Le.un f g) htab)) (BAt.mono (Le.un _ g2) (strRow_bat hg hj)) (slc_bat _ hg2 hj2) (by rw [zap]; exact hc) hd (by rw [zap]; exact hl)
  rwa [zap] at h
theorem thmac_fn (htab : TabAt f) {p r : Option Addr} {c d : Nat} {key b : List UInt8} (hk : BAt f p key) (hb : BAt f r b) (hd : b.length ≤ d) (hl : key.length ≤ 64) (hl2 : b.length ≤ 10000000) :
  Fn Tryz.prog 190 [.slice p key.length c, .slice r b.length d] f F (Ret (.agg (b32 (Sha.hmac key b)).toArray) f F) := by
 refine Fn.enter Tryz.func190 rfl Tryz.ntmps190 rfl (L := [(0, _), (1, _)]) ⟨rfl, rfl, trivial⟩ fun base => ?_
 refine gA ?_
 refine H.Av (ls := zb 32) rfl rfl rfl fun ob => ?_
 refine gU ?_
 refine H.Ar rfl rfl rfl (turned_fn (t := 0x36) f _ hk hl) fun p1 c1 => ?_
 have h1 := Sha.turn_len hl 0x36
 generalize hT : Sha.turn key 0x36 = T at h1
 refine H.slc_cap (.here _ _ _) fun hc1 _ _ => ?_
 refine gU ?_
 refine H.Bd (out := [.slice p1 T.length c1, .slice r b.length d]) rfl rfl rfl rfl (by decide) (by decide) rfl rfl fun pb => ?_
 refine H.Aa (x := slc _ _ _ _ _ _) (by repeat constructor) ?_
 refine H.Ad rfl rfl rfl (tdig_sb f _ htab (a := T) (b := b) hb hc1 hd (by omega)) ?_
 refine H.Ab (x := slc _ _ _ _ _ _) (by repeat constructor) ?_
 refine H.Ab (x := pt2 _ _ _ _ _ _ _) (by repeat constructor) ?_
 refine H.Av (ls := zb 32) rfl rfl rfl fun ib => ?_
 refine H.Ap (ls := zb 32) (vs := b32 (Sha.sum (T ++ b))) (ls' := b32 (Sha.sum (T ++ b))) rfl rfl rfl (zae rfl) rfl rfl (Nat.le_refl 32) (by repeat constructor) ?_
 generalize hin : Sha.sum (T ++ b) = inn
 refine gA ?_
 refine H.Ay (by kernel_rfl) (by decide +kernel) (by repeat (first | exact zab | refine zaa ?_ | refine zac ?_ | refine zad ?_)) (S := [_]) rfl ?_
 refine HB.Af [(0, false), (2, false)] 4 (by kernel_rfl) ?_
 refine gB ?_
 refine HQ.Cd (lo := none) (hi := none) (mx := none) (lv := 0) (hv := 32) (mv := 32) rfl rfl rfl rfl rfl (fun h => by cases h) (by decide) (by decide) (by decide) rfl ?_
 refine HQ.Ae rfl ?_
 refine HB.ev1 (i := 1) (by kernel_rfl) rfl ?_
 refine H.Ar rfl rfl rfl (turned_fn (t := 0x5c) f _ hk hl) fun p3 c3 => ?_
 have h2 := Sha.turn_len hl 0x5c
 generalize hT2 : Sha.turn key 0x5c = T2 at h2
 refine H.slc_cap (.here _ _ _) fun hc3 _ _ => ?_
 refine gA ?_
 refine H.Aa (x := row ib _ _) (by repeat constructor) ?_
 refine H.on0 rfl ?_
 refine HB.ev1 (i := 3) (by kernel_rfl) rfl ?_
 refine H.Bd (out := [.slice p3 T2.length c3, .slice (some ⟨ib, 0, none⟩) 32 32]) rfl rfl rfl rfl (by decide) (by decide) rfl rfl fun pb2 => ?_
 refine gA ?_
 refine H.Aa (x := row ib _ _) (by repeat constructor) ?_
 refine H.on0 rfl ?_
 refine HB.ev1 (i := 4) (by kernel_rfl) rfl ?_
 refine H.Aa (x := slc _ _ _ _ _ _) (by repeat constructor) ?_
 have hfin : Sha.hmac key b = Sha.sum (T2 ++ b32L inn) := by unfold Sha.hmac; rw [hT, hT2, hin]
 rw [hfin]
 refine H.Ad rfl rfl rfl (tdig_sr f _ htab (a := T2) (b := b32L inn) (d := 32) hc3 (Nat.le_refl 32) (by show T2.length + 32 ≤ _; omega)) ?_
 generalize T2 ++ b32L inn = l4
 refine gA ?_
 refine H.Aa (x := row ib _ _) (by repeat constructor) ?_
 refine H.on0 rfl ?_
 refine HB.ev1 (i := 5) (by kernel_rfl) rfl ?_
 refine H.Ap (ls := zb 32) (vs := b32 (Sha.sum l4)) (ls' := b32 (Sha.sum l4)) rfl rfl rfl (zae rfl) rfl rfl (Nat.le_refl 32) (by repeat constructor) ?_
 refine gA ?_
 refine H.on0 rfl ?_
 refine HB.Aq (by kernel_rfl) ?_
 refine ga ?_
 refine H.Ab (x := slc _ _ _ _ _ _) (by repeat constructor) ?_
 refine H.Ab (x := row ib _ _) (by repeat constructor) ?_
 refine H.Ab (x := pt2 _ _ _ _ _ _ _) (by repeat constructor) ?_
 exact H.retD rfl rfl rfl (Rd.ofRow (by repeat constructor)) rfl (fun _ s => s.drop (.here _ _)) ⟨rfl, rfl, rfl⟩
theorem tkey_fn (htab : TabAt f) {w : ByteArray} {i most : Int} (h1 : 1 ≤ i) (h2 : i ≤ most) (h3 : most ≤ 1000) (hw : w.size ≤ 1000) :
  Fn Tryz.prog 204 [.string w, .int .i64 i, .int .i64 most] f F (BytesR (Sha.word32 w.data.toList i) f F) := by
 refine Fn.enter Tryz.func204 rfl Tryz.ntmps204 rfl (L := [(0, _), (1, _), (2, _)]) ⟨rfl, rfl, rfl, trivial⟩ fun base => ?_
 refine gY ?_
 refine H.convSBc rfl rfl rfl fun sb sc hsc => ?_
 refine gK ?_
 refine H.Ar rfl rfl rfl (word_fn (l := []) (n := i) f _ Src.nil (fun _ => rfl) (by decide)) fun p1 c1 => ?_
 rw [List.nil_append]
 have h8 := be_len 8 i
 unfold Sha.word32
 generalize be 8 i = l1 at h8 ⊢
 refine H.slc_cap (.here _ _ _) fun hc1 _ _ => ?_
 skip
 refine H.Bd (out := [.slice (some ⟨sb, 0, none⟩) w.size sc, .slice p1 l1.length c1]) rfl rfl rfl rfl (by decide) (by decide) rfl rfl fun pb => ?_
 refine H.Aa (x := slc _ _ _ _ _ _) (by repeat constructor) ?_
 refine H.Aa (x := strRow _ _ _ _) (by repeat constructor) ?_
 refine H.Ad rfl rfl rfl (tdig_ts f _ htab (a := w) (b := l1) hsc hc1 (by omega)) ?_
 refine H.Ab (x := strRow _ _ _ _) (by repeat constructor) ?_
 refine H.Ab (x := slc _ _ _ _ _ _) (by repeat constructor) ?_
 refine H.Ab (x := pt2 _ _ _ _ _ _ _) (by repeat constructor) ?_
 generalize w.data.toList ++ l1 = l2
 refine H.Av (ls := zb 32) rfl rfl rfl fun db => ?_
 refine H.Ap (ls := zb 32) (vs := b32 (Sha.sum l2)) (ls' := b32 (Sha.sum l2)) rfl rfl rfl (zae rfl) rfl rfl (Nat.le_refl 32) (by repeat constructor) ?_
 generalize Sha.sum l2 = d
 refine gA ?_
 refine H.Cd (lo := none) (hi := none) (mx := none) (lv := 0) (hv := 32) (mv := 32) rfl rfl rfl rfl rfl (fun h => by cases h) (by decide) (by decide) (by decide) rfl ?_
 refine H.Ar rfl rfl rfl (cloneB_fn f _ (l := b32L d) (Src.slice (m := 32) (Rd.ofRow (.here _ _ _)) rfl) (fun h => by cases h) (by show 32 ≤ _; decide)) fun p4 c4 => ?_
 refine ga ?_
 refine H.Ab (x := row db _ _) (by repeat constructor) ?_
 exact H.Ac rfl rfl (fun _ h => h) ⟨p4, c4, rfl, rfl, rfl⟩
end
structure BP where
 p : Option Addr
 c : Nat
 l : List UInt8
def flat (ps : List BP) : List UInt8 := ps.flatMap BP.l
def upto (ps : List BP) (i : Nat) : List UInt8 := flat (ps.take i)
section
variable (f : Frag) (F : List HP)
theorem thmac_ss (htab : TabAt f) {p r : Option Addr} {c d : Nat} {key b : List UInt8} (hd : b.length ≤ d) (hl : key.length ≤ 64) (hl2 : b.length ≤ 10000000) :
  Fn Tryz.prog 190 [.slice p key.length c, .slice r b.length d] f (slc p key.length c 5 1 (bytesV key) :: slc r b.length d 5 1 (bytesV b) :: F) (Ret (.agg (b32 (Sha.hmac key b)).toArray) f (slc p key.length c 5 1 (bytesV key) :: slc r b.length d 5 1 (bytesV b) :: F)) :=
 Fn.frozen fun g hg hj => Fn.frozen fun g2 hg2 hj2 => thmac_fn (un (un f g) g2) F (IntsAt.mono (Le.un _ g2) (IntsAt.mono (Le.un f g) htab)) (BAt.mono (Le.un _ g2) (slc_bat _ hg hj)) (slc_bat _ hg2 hj2) hd hl hl2
end
def orx (a b : Nat → UInt8) : Nat → UInt8
 | 0 => 0
 | i + 1 => orx a b i ||| (a i ^^^ b i)
theorem u8_or0 (x y : UInt8) : x ||| y = 0 ↔ x = 0 ∧ y = 0 := by
 rw [← UInt8.toBitVec_inj, ← UInt8.toBitVec_inj, ← UInt8.toBitVec_inj]
 simp
theorem u8_xor0 (x y : UInt8) : x ^^^ y = 0 ↔ x = y := by
 rw [← UInt8.toBitVec_inj, ← UInt8.toBitVec_inj]
 simp
theorem u8_or (x y : UInt8) : bitsI .or .u8 (x.toNat : Int) (y.toNat : Int) = some (((x ||| y).toNat : Nat) : Int) := by
 have e : (BitVec.ofInt 8 (x.toNat : Int) ||| BitVec.ofInt 8 (y.toNat : Int)).toNat = (x ||| y).toNat := by rw [u8_bv, u8_bv]; rfl
 show some (IntKind.u8.wrap ((BitVec.ofInt 8 (x.toNat : Int) ||| BitVec.ofInt 8 (y.toNat : Int)).toNat : Int)) = _
 rw [e, u8_wrapN]
theorem orx_zero (a b : Nat → UInt8) : ∀ i, orx a b i = 0 ↔ ∀ j, j < i → a j = b j
 | 0 => ⟨fun _ j h => by omega, fun _ => rfl⟩
 | i + 1 => by
  show orx a b i ||| (a i ^^^ b i) = 0 ↔ _
  rw [u8_or0, u8_xor0, orx_zero a b i]
  constructor
  ·rintro ⟨h1, h2⟩ j hj
   by_cases e : j = i
   ·rw [e]; exact h2
   ·exact h1 j (by omega)
  ·intro h
   exact ⟨fun j hj => h j (by omega), h i (by omega)⟩
theorem eqC_bytes2 : ∀ a b : List UInt8, eqC (bytesV a) (bytesV b) = decide (a = b)
 | [], [] => rfl
 | [], _ :: _ => rfl
 | _ :: _, [] => rfl
 | x :: a, y :: b => by
  show (eqv (.int .u8 x.toNat) (.int .u8 y.toNat) && eqC (bytesV a) (bytesV b)) = _
  rw [eqC_bytes2 a b]
  show (((x.toNat : Int) == (y.toNat : Int)) && _) = _
  rw [Bool.eq_iff_iff]
  simp only [Bool.and_eq_true, beq_iff_eq, decide_eq_true_eq, List.cons.injEq]
  constructor
  ·rintro ⟨h1, h2⟩
   exact ⟨UInt8.toNat_inj.1 (by omega), h2⟩
  ·rintro ⟨h1, h2⟩
   exact ⟨by rw [h1], h2⟩
theorem b32L_map (a : Nat → UInt8) : b32L a = (List.range 32).map a := rfl
def eq32 (a b : Nat → UInt8) : Bool := eqC (b32 a) (b32 b)
theorem eq32_orx (a b : Nat → UInt8) : eq32 a b = decide (orx a b 32 = 0) := by
 unfold eq32
 rw [b32_bytes, b32_bytes, eqC_bytes2, b32L_map, b32L_map]
 refine decide_eq_decide.2 ?_
 rw [List.map_inj_left, orx_zero]
 constructor
 ·intro h j hj
  exact h j (List.mem_range.2 hj)
 ·intro h j hj
  exact h j (List.mem_range.1 hj)
theorem orx_dec (a b : Nat → UInt8) : decide (((orx a b 32).toNat : Int) = 0) = eq32 a b := by
 rw [eq32_orx]
 refine decide_eq_decide.2 ⟨fun h => UInt8.toNat_inj.1 (by show (orx a b 32).toNat = 0; omega), fun h => by rw [h]; rfl⟩
section
variable (f : Frag) (F : List HP)
theorem tsame_fn {a b : Nat → UInt8} : Fn Tryz.prog 162 [.agg (b32 a).toArray, .agg (b32 b).toArray] f F (Ret (.bool (eq32 a b)) f F) := by
 have hdec := orx_dec a b
 refine Fn.enter Tryz.func162 rfl Tryz.ntmps162 rfl (L := [(0, _), (1, _)]) ⟨rfl, rfl, trivial⟩ fun base => ?_
 refine gA ?_
 refine H.box (ls := b32 a) rfl rfl rfl rfl fun ab => ?_
 refine H.box (ls := b32 b) rfl rfl rfl rfl fun bb => ?_
 refine ga ?_
 refine H.Ax (ι := Nat) (fun i => [(7, .int .i64 (i : Int)), (5, .int .u8 ((orx a b i).toNat : Nat)), (2, .pointer (some ⟨ab, 0, none⟩)), (3, .pointer (some ⟨bb, 0, none⟩))]) (fun _ => f)
  (fun _ => row bb 47 (b32 b) :: row ab 47 (b32 a) :: F) (fun i => i ≤ 32) (fun i => 32 - i) 0 (Nat.zero_le _) ⟨rfl, rfl, rfl, rfl, trivial⟩ rfl rfl fun i hi => ?_
 have hi : i ≤ 32 := hi
 show H _ _ _ [_, (5, .int .u8 ((orx a b i).toNat : Nat)), _, _] _ _ _
 by_cases hlt : i < 32
 ·have ha : (b32 a)[i * 1]? = some (.int .u8 ((a i).toNat : Nat)) := by rw [Nat.mul_one]; exact b32_get a hlt
  have hb : (b32 b)[i * 1]? = some (.int .u8 ((b i).toNat : Nat)) := by rw [Nat.mul_one]; exact b32_get b hlt
  have hs : orx a b (i + 1) = orx a b i ||| (a i ^^^ b i) := rfl
  refine gG ?_
  refine H.Bp (by kernel_rfl) (by decide +kernel) (by repeat (first | exact zab | refine zaa ?_ | refine zac ?_ | refine zad ?_)) ?_
  repeat (first | (apply HQ.Ba (i := i); (iterate 3 exact rfl); omega; omega; exact rfl) | (apply HQ.Ag; (iterate 3 exact rfl); (first | exact .of (Rd.ofRow (by repeat constructor)) ha | exact .of (Rd.ofRow (by repeat constructor)) hb); exact rfl) | ((first | apply HQ.Ah | apply HQ.Ak); (iterate 3 exact rfl)) | ((apply HQ.done0); exact rfl) | (apply HQ.Bj (op := .xor); (iterate 3 exact rfl); exact u8_xor _ _; (iterate 2 exact rfl)) | (apply HQ.Bj (op := .or); (iterate 3 exact rfl); exact u8_or _ _; (iterate 2 exact rfl)))
  rw [← hs]
  refine gK ?_
  exact H.Au (i + 1) (by show i + 1 ≤ 32; omega) (by show 32 - (i + 1) < 32 - i; omega) ⟨rfl, rfl, rfl, rfl, trivial⟩ rfl rfl
 ·have hi32 : i = 32 := by omega
  subst hi32
  generalize orx a b 32 = x at hdec ⊢
  rw [← hdec]
  clear hdec
  refine gH ?_
  refine H.Ab (.here _ _) ?_
  refine H.Ab (.here _ _) ?_
  exact H.Ac rfl rfl (fun _ h => h) ⟨rfl, rfl, rfl⟩
end
theorem byteAt_nat (n : Nat) (j : Nat) : (byteAt (n : Int) j).toNat = n / 256 ^ j % 256 := by
 unfold byteAt
 have e : (n : Int).fdiv (2 ^ (8 * j)) % 256 = ((n / 256 ^ j % 256 : Nat) : Int) := by
  rw [show ((2 : Int) ^ (8 * j)) = ((2 ^ (8 * j) : Nat) : Int) by simp, Int.fdiv_eq_ediv_of_nonneg _ (Int.natCast_nonneg _), Nat.pow_mul]
  rfl
 rw [e, Int.toNat_natCast, UInt8.toNat_ofNat']
 omega
theorem numB_beTop (k n : Nat) : ∀ i, i ≤ k → numB (beTop k (n : Int) i) = n / 256 ^ (k - i) % 256 ^ i
 | 0, _ => by simp [beTop, numB, Nat.mod_one]
 | i + 1, h => by
  unfold beTop
  rw [numB_snoc, numB_beTop k n i (by omega), byteAt_nat]
  have e1 : k - i = (k - (i + 1)) + 1 := by omega
  have e2 : k - 1 - i = k - (i + 1) := by omega
  rw [e1, e2]
  generalize k - (i + 1) = m
  rw [Nat.pow_succ, Nat.pow_succ, ← Nat.div_div_eq_div_mul]
  generalize n / 256 ^ m = a
  rw [Nat.mul_comm (256 ^ i) 256, Nat.mod_mul]
  omega
theorem numB_be {k n : Nat} (h : n < 256 ^ k) : numB (be k (n : Int)) = n := by
 unfold be
 rw [numB_beTop k n k (Nat.le_refl _), Nat.sub_self, Nat.pow_zero, Nat.div_one, Nat.mod_eq_of_lt h]
theorem numB_be8 {z : Int} (h : 0 ≤ z ∧ z ≤ 18446744073709551615) : ((numB (be 8 z) : Nat) : Int) = z := by
  obtain ⟨n, rfl⟩ := Int.eq_ofNat_of_zero_le h.1
  rw [numB_be (by have : (256 : Nat) ^ 8 = 18446744073709551616 := by decide
                  omega)]
section
variable {a r : List UInt8} {n : Nat}
theorem Cs.ok_app (h : a.length = n) : (⟨a ++ r, false⟩ : Cs).ok n = true := by
 rw [Cs.ok_iff]; exact ⟨rfl, by show n ≤ (a ++ r).length; rw [List.length_append]; omega⟩
theorem Cs.num_app (h : a.length = n) : (⟨a ++ r, false⟩ : Cs).num n = numB a := by
 unfold Cs.num; rw [if_pos (Cs.ok_app h)]; show numB ((a ++ r).take n) = _; rw [← h, List.take_left]
theorem Cs.skip_app (h : a.length = n) : (⟨a ++ r, false⟩ : Cs).skip n = ⟨r, false⟩ := by
 unfold Cs.skip; rw [if_pos (Cs.ok_app h)]; show (⟨(a ++ r).drop n, false⟩ : Cs) = _; rw [← h, List.drop_left]
theorem Cs.raw_app (h : a.length = n) : (⟨a ++ r, false⟩ : Cs).raw n = a := by
 unfold Cs.raw; rw [if_pos (Cs.ok_app h)]; show (a ++ r).take n = _; rw [← h, List.take_left]
theorem Cs.num8_be {z : Int} (h : 0 ≤ z ∧ z ≤ 18446744073709551615) : (((⟨be 8 z ++ r, false⟩ : Cs).num 8 : Nat) : Int) = z := by
 rw [Cs.num_app (be_len _ _), numB_be8 h]
theorem Cs.num1_b {b : UInt8} : (⟨b :: r, false⟩ : Cs).num 1 = b.toNat := by
 have := Cs.num_app (a := [b]) (r := r) (n := 1) rfl
 rw [List.singleton_append] at this
 rw [this]; simp [numB]
theorem Cs.skip1_b {b : UInt8} : (⟨b :: r, false⟩ : Cs).skip 1 = ⟨r, false⟩ := Cs.skip_app (a := [b]) rfl
theorem Cs.text_app {s : ByteArray} {most : Nat} (h : s.size ≤ most) (hm : most < 65536) :
    (⟨textB s ++ r, false⟩ : Cs).text most = s.data.toList ∧ (⟨textB s ++ r, false⟩ : Cs).textS most = ⟨r, false⟩ := by
  unfold textB
  rw [List.append_assoc]
  have h2 : (⟨be 2 (s.size : Nat) ++ (s.data.toList ++ r), false⟩ : Cs).num 2 = s.size := by
    rw [Cs.num_app (be_len _ _), numB_be (by have : (256 : Nat) ^ 2 = 65536 := by decide
                                             omega)]
  have hok : (⟨be 2 (s.size : Nat) ++ (s.data.toList ++ r), false⟩ : Cs).ok 2 = true := Cs.ok_app (be_len _ _)
  have hdl := zap s
  have ht : (⟨be 2 (s.size : Nat) ++ (s.data.toList ++ r), false⟩ : Cs).tok most = true := by
    unfold Cs.tok
    rw [hok, h2]
    simp only [Bool.true_and, Bool.and_eq_true]
    refine ⟨Nat.ble_eq_true_of_le h, Nat.ble_eq_true_of_le ?_⟩
    show 2 + s.size ≤ (be 2 (s.size : Nat) ++ (s.data.toList ++ r)).length
    rw [List.length_append, List.length_append, be_len, hdl]; omega
  constructor
  · unfold Cs.text
    rw [if_pos ht, h2]
    show ((be 2 (s.size : Nat) ++ (s.data.toList ++ r)).drop 2).take s.size = _
    rw [List.drop_left' (be_len _ _), List.take_left' hdl]
  · unfold Cs.textS
    rw [if_pos ht, h2]
    show (⟨(be 2 (s.size : Nat) ++ (s.data.toList ++ r)).drop (2 + s.size), false⟩ : Cs) = _
    rw [← List.drop_drop, List.drop_left' (be_len _ _), List.drop_left' hdl]
theorem Cs.hash_app {t : Nat → UInt8} : b32 ((⟨b32L t ++ r, false⟩ : Cs).hash) = b32 t := by
 have e := Cs.raw_app (a := b32L t) (r := r) (n := 32) rfl
 unfold Cs.hash
 simp only [e]
 rfl
end
theorem baOf_data (s : ByteArray) : baOf s.data.toList = s := by
 unfold baOf
 rw [Array.toArray_toList]
def Req.Ok (r : Req) : Prop := (0 ≤ r.time ∧ r.time ≤ 18446744073709551615) ∧ (0 ≤ r.amount ∧ r.amount ≤ 18446744073709551615)
def Bod.Ok (x : Bod) : Prop := (0 ≤ x.view ∧ x.view ≤ 18446744073709551615) ∧ (0 ≤ x.k ∧ x.k ≤ 18446744073709551615) ∧ x.req.Ok
theorem req_back {q : Req} (h : q.Ok) (ha : q.asked) (r : List UInt8) :
  ((⟨q.bytes ++ b32L q.tag ++ r, false⟩ : Cs).req 32 128).vals = q.vals ∧ (⟨q.bytes ++ b32L q.tag ++ r, false⟩ : Cs).reqS 32 128 = ⟨r, false⟩ := by
 obtain ⟨ht, hm⟩ := h
 obtain ⟨c1, c2, _, _, ⟨k1, k2⟩, k3, k4⟩ := ha
 have e : q.bytes ++ b32L q.tag ++ r = b8 q.client :: q.kind :: (be 8 q.time ++ (be 8 q.amount ++ (textB q.key ++ (textB q.val ++ (textB q.old ++ (textB q.to ++ (b32L q.tag ++ r))))))) := by
  unfold Req.bytes Req.head
  simp only [List.append_assoc, List.cons_append, List.nil_append]
  rfl
 rw [e]
 unfold Cs.req Cs.reqS
 dsimp only
 have t1 := Cs.text_app (s := q.key) (most := 32) (r := textB q.val ++ (textB q.old ++ (textB q.to ++ (b32L q.tag ++ r)))) k1 (by decide)
 have t2 := Cs.text_app (s := q.val) (most := 128) (r := textB q.old ++ (textB q.to ++ (b32L q.tag ++ r))) k3 (by decide)
 have t3 := Cs.text_app (s := q.old) (most := 128) (r := textB q.to ++ (b32L q.tag ++ r)) k4 (by decide)
 have t4 := Cs.text_app (s := q.to) (most := 32) (r := b32L q.tag ++ r) k2 (by decide)
 rw [Cs.num1_b, Cs.skip1_b, Cs.skip1_b, Cs.skip_app (be_len _ _), Cs.skip_app (be_len _ _), t1.1, t1.2, t2.1, t2.2, t3.1, t3.2, t4.1, t4.2, Cs.num8_be ht, Cs.num8_be hm]
 constructor
 ·unfold Cs.byte
  rw [Cs.num1_b]
  unfold Req.vals
  rw [Cs.hash_app, baOf_data, baOf_data, baOf_data, baOf_data, b8_small (by omega)]
  simp
 ·exact Cs.skip_app (a := b32L q.tag) rfl
theorem pairs_back : ∀ (q : List (Int × Int)) (w : Int) (r : List UInt8) (acc : List (Int × Int)), 0 ≤ w → quo w q = true → Cs.pairs q.length ⟨q.flatMap pairB ++ r, false⟩ acc = (acc ++ q, ⟨r, false⟩)
 | [], w, r, acc, _, _ => by simp [Cs.pairs]
 | p :: q, w, r, acc, hw, h => by
  unfold quo at h
  split at h
  ·cases h
  ·rename_i hn
   have ih := pairs_back q p.1 r (acc ++ [p]) (by omega) h
   have e : (p :: q).flatMap pairB ++ r = b8 p.1 :: (be 8 p.2 ++ (q.flatMap pairB ++ r)) := by
    simp [pairB]
   rw [e]
   show (if false = true then _ else Cs.pairs q.length (((⟨_, false⟩ : Cs).skip 1).skip 8) (acc ++ [((((⟨_, false⟩ : Cs).num 1 : Nat) : Int), ((((⟨_, false⟩ : Cs).skip 1).num 8 : Nat) : Int))])) = _
   rw [if_neg (by decide), Cs.skip1_b, Cs.skip_app (be_len _ _), Cs.num1_b, Cs.num8_be (by omega), b8_small (by omega), ih]
   simp
def Bod.E (a b : Bod) : Prop := a.kind = b.kind ∧ a.view = b.view ∧ a.k = b.k ∧ a.req.vals = b.req.vals ∧ a.q = b.q ∧ b32 a.dig = b32 b.dig
theorem Bod.E.eqB {x a b : Bod} (h : Bod.E a b) : Bod.eqB x a = Bod.eqB x b := by
 obtain ⟨h1, h2, h3, h4, h5, h6⟩ := h
 unfold Bod.eqB
 rw [h1, h2, h3, h4, h5, h6]
theorem eqv_comm (a b : Value) : eqv a b = eqv b a := by
 cases a with
 | bool x =>
  cases b with
  | bool y => cases x <;> cases y <;> rfl
  | _ => rfl
 | int k x =>
  cases b with
  | int l y =>
   show (x == y) = (y == x)
   rw [Bool.eq_iff_iff, beq_iff_eq, beq_iff_eq]; exact eq_comm
  | _ => rfl
 | string x =>
  cases b with
  | string y =>
   show (x == y) = (y == x)
   rw [beq_toListBytes, beq_toListBytes, Bool.eq_iff_iff, beq_iff_eq, beq_iff_eq]; exact eq_comm
  | _ => rfl
 | _ => cases b <;> rfl
theorem eqC_comm : ∀ (a b : List Value), eqC a b = eqC b a
 | [], [] => rfl
 | [], _ :: _ => rfl
 | _ :: _, [] => rfl
 | x :: xs, y :: ys => by simp only [eqC]; rw [eqv_comm, eqC_comm xs ys]
theorem Bod.eqB_comm (a b : Bod) : Bod.eqB a b = Bod.eqB b a := by
 unfold Bod.eqB
 rw [eqC_comm a.req.vals, eqC_comm (b32 a.dig), show decide (((a.kind.toNat : Nat) : Int) = b.kind.toNat) = decide (((b.kind.toNat : Nat) : Int) = a.kind.toNat) from decide_eq_decide.2 eq_comm,
  show decide (a.view = b.view) = decide (b.view = a.view) from decide_eq_decide.2 eq_comm, show decide (a.k = b.k) = decide (b.k = a.k) from decide_eq_decide.2 eq_comm, show decide (a.q = b.q) = decide (b.q = a.q) from decide_eq_decide.2 eq_comm]
theorem own_q {x : Bod} (h : x.kind.toNat ≠ 4) : x.own.q = [] := by
 unfold Bod.own
 generalize x.kind.toNat = k at h
 match k, h with
 | 0, _ => rfl
 | 1, _ => rfl
 | 2, _ => rfl
 | 3, _ => rfl
 | 4, h => exact absurd rfl h
 | 5, _ => rfl
 | 6, _ => rfl
 | k + 7, _ => rfl
theorem back_own {x : Bod} (hx : x.Ok) (hm : x.mayK x.kind.toNat = true) : Bod.E (x.back x.kind.toNat) x.own := by
 obtain ⟨hv, hk, hr⟩ := hx
 unfold Bod.back Bod.own
 generalize x.kind.toNat = k at hm
 match k, hm with
 | 0, hm => exact absurd hm (by simp [Bod.mayK])
 | k + 7, hm => exact absurd hm (by simp [Bod.mayK])
 | 1, hm =>
  have ha : x.req.asked := of_decide_eq_true hm
  have e : x.putK 1 = be 8 x.view ++ (x.req.bytes ++ b32L x.req.tag ++ []) := by simp [Bod.putK]
  rw [e]
  have h1 := req_back hr ha []
  refine ⟨rfl, ?_, rfl, ?_, rfl, rfl⟩
  ·exact Cs.num8_be hv
  ·show (((⟨_, false⟩ : Cs).skip 8).req 32 128).vals = _
   rw [Cs.skip_app (be_len _ _)]
   exact h1.1
 | 2, _ =>
  have e : x.putK 2 = be 8 x.view ++ (be 8 x.k ++ []) := by simp [Bod.putK]
  rw [e]
  refine ⟨rfl, Cs.num8_be hv, ?_, rfl, rfl, rfl⟩
  show ((((⟨_, false⟩ : Cs).skip 8).num 8 : Nat) : Int) = _
  rw [Cs.skip_app (be_len _ _)]
  exact Cs.num8_be hk
 | 3, _ =>
  have e : x.putK 3 = be 8 x.view ++ [] := by simp [Bod.putK]
  rw [e]
  exact ⟨rfl, Cs.num8_be hv, rfl, rfl, rfl, rfl⟩
 | 5, _ =>
  have e : x.putK 5 = be 8 x.view ++ [] := by simp [Bod.putK]
  rw [e]
  exact ⟨rfl, Cs.num8_be hv, rfl, rfl, rfl, rfl⟩
 | 6, _ =>
  have e : x.putK 6 = be 8 x.k ++ (b32L x.dig ++ []) := by simp [Bod.putK]
  rw [e]
  refine ⟨rfl, rfl, Cs.num8_be hk, rfl, rfl, ?_⟩
  show b32 (((⟨_, false⟩ : Cs).skip 8).hash) = _
  rw [Cs.skip_app (be_len _ _)]
  exact Cs.hash_app
 | 4, hm =>
  simp only [Bod.mayK, Bool.and_eq_true, decide_eq_true_eq] at hm
  have hlen := quo_len x.q 0 (by omega) hm.2.1
  have e : x.putK 4 = be 8 x.view ++ (b8 x.q.length :: (x.q.flatMap pairB ++ [])) := by simp [Bod.putK]
  rw [e]
  have hn : (b8 x.q.length).toNat = x.q.length := by have := b8_small (z := (x.q.length : Int)) (by omega); omega
  have hp := pairs_back x.q 0 [] [] (Int.le_refl 0) hm.2.1
  refine ⟨rfl, Cs.num8_be hv, rfl, rfl, ?_, rfl⟩
  show (Cs.pairs (((⟨_, false⟩ : Cs).skip 8).num 1) (((⟨_, false⟩ : Cs).skip 8).skip 1) []).1 = _
  rw [Cs.skip_app (be_len _ _), Cs.num1_b, Cs.skip1_b, hn, hp]
  rfl
theorem mayB_eq {x : Bod} (hx : x.Ok) : x.mayB = x.may := by
 unfold Bod.mayB Bod.may Bod.mayP
 cases hm : x.mayK x.kind.toNat with
 | false => simp
 | true =>
  have hk : 1 ≤ x.kind.toNat ∧ x.kind.toNat ≤ 6 := by
   generalize x.kind.toNat = k at hm
   match k, hm with
   | 0, hm => exact absurd hm (by simp [Bod.mayK])
   | k + 7, hm => exact absurd hm (by simp [Bod.mayK])
   | 1, _ => decide
   | 2, _ => decide
   | 3, _ => decide
   | 4, _ => decide
   | 5, _ => decide
   | 6, _ => decide
  rw [decide_eq_true hk, Bod.E.eqB (back_own hx hm), Bod.eqB_comm x x.own]
  simp only [Bool.true_and, Bool.and_true]
  have hlen : Bod.eqB x.own x = true → x.q.length ≤ 11 := fun h => by
   have hq := Bod.eqB_q h
   by_cases h4 : x.kind.toNat = 4
   ·rw [h4] at hm
    simp only [Bod.mayK, Bool.and_eq_true, decide_eq_true_eq] at hm
    have := quo_len x.q 0 (by omega) hm.2.1
    omega
   ·rw [own_q h4] at hq
    rw [← hq]; exact Nat.zero_le _
  cases he : Bod.eqB x.own x with
  | false => simp
  | true => simp [hlen he]
structure MV where
 m : Msg
 qp : Option Addr
 qc : Nat
def MV.vals (x : MV) : List Value := x.m.vals x.qp x.qc
def MV.Good (f : Frag) (x : MV) : Prop := QAt f x.qp x.m.body.q ∧ x.m.body.q.length ≤ 1000000 ∧ x.m.body.Ok
section
variable (f : Frag) (F : List HP)
theorem mmay_fn {x : MV} (hx : x.Good f) : Fn Tryz.prog 46 [.agg x.vals.toArray] f F (Ret (.bool x.m.may) f F) := by
 have := may_fn (m := x.m) (qc := x.qc) f F hx.1 (by have := hx.2.1; omega)
 rw [mayB_eq hx.2.2] at this
 exact this
end
section
variable (f : Frag) (F : List HP)
end
def Msg.right (m : Msg) : Bool := m.may && eq32 m.tag (Sha.numbered m.origin m.number m.tagged)
theorem Msg.may_outer {m : Msg} (h : m.may = true) : m.outer := by
 unfold Msg.may at h
 simp only [Bool.and_eq_true, decide_eq_true_eq] at h
 exact h.1
section
variable (f : Frag) (F : List HP)
end
theorem eqv_refl (v : Value) (h : (match v with | .bool _ | .int _ _ | .string _ => true | _ => false) = true) : eqv v v = true := by
 cases v <;> simp at h <;> simp [eqv]
 rename_i s
 rw [beq_toListBytes]
 simp
def plainC : List Value → Bool
 | [] => true
 | v :: r => (match v with | .bool _ | .int _ _ | .string _ => true | _ => false) && plainC r
theorem eqC_refl : ∀ {l : List Value}, plainC l = true → eqC l l = true
 | [], _ => rfl
 | v :: r, h => by
  simp only [plainC, Bool.and_eq_true] at h
  simp only [eqC, eqv_refl v h.1, eqC_refl h.2, Bool.and_true]
section
variable (f : Frag) (F : List HP)
end
end Go.Proofs.YtdcjlgigcbinjaaGreatDoor

namespace Go.Proofs.YtdcjlgigcbinjaaGreatDoor
open Go Go.ChangeShapes Go.WideShapes Go.RowKit Go.Deep
/-! ### Cells of arrays, strings and structs -/
theorem Reads.string {P : Program} {W : World} {t : TypeId} {cs : List Value} (ht : P.underlying t = some .string) (h : Reads P W t cs) : ∃ s : ByteArray, cs = [.string s] ∧ s.size ≤ maxLen := by
 obtain ⟨H', enc, b, sp, hd, n, x, h⟩ := h
 obtain ⟨s, h1, _, h2⟩ := DataW.trod_string ht h
 exact ⟨s, h1, h2⟩
theorem pieces_one : ∀ (n : Nat) (cs : List Value) (g : Nat → Value), cs.length = n → (∀ i, i < n → (cs.drop i).take 1 = [g i]) → cs = (List.range n).map g := by
 intro n cs g hl h
 apply List.ext_getElem?
 intro i
 rw [List.getElem?_map]
 by_cases hi : i < n
 ·rw [List.getElem?_range hi]
  have h1 := congrArg (fun l => l[0]?) (h i hi)
  simp only [List.getElem?_take, List.getElem?_drop] at h1
  simpa using h1
 ·rw [List.getElem?_eq_none (by omega), List.getElem?_eq_none (by simpa using hi)]; rfl
theorem Reads.ints {P : Program} {W : World} {t e : TypeId} {n : Nat} {k : IntKind} {cs : List Value} (ht : P.underlying t = some (.array n e)) (he : P.underlying e = some (.int k)) (h1 : P.cellsOf e = 1) (hn : P.cellsOf t = n) (h : Reads P W t cs) :
  ∃ d : Nat → Int, cs = (List.range n).map (fun i => .int k (d i)) ∧ ∀ i, i < n → k.min ≤ d i ∧ d i ≤ k.max := by
 obtain ⟨H', enc, b, sp, hd, fu, x, h⟩ := h
 obtain ⟨xs, m, rfl, rfl, hlen, hl, hel⟩ := DataW.trod_array ht h
 have key : ∀ i, ∃ z, i < n → (cs.drop i).take 1 = [.int k z] ∧ k.min ≤ z ∧ z ≤ k.max := fun i => by
  by_cases hi : i < n
  ·have h2 := hel i hi
   rw [h1, Nat.mul_one, List.getElem?_eq_getElem (by omega)] at h2
   have h3 : Reads P W e ((cs.drop i).take 1) := ⟨H', enc, b, sp, hd, m, _, h2⟩
   obtain ⟨z, e1, e2⟩ := h3.int he
   exact ⟨z, fun _ => ⟨e1, e2⟩⟩
  ·exact ⟨0, fun h => absurd h hi⟩
 refine ⟨fun i => (key i).choose, pieces_one n cs (fun i => .int k (key i).choose) (by rw [hlen, hn]) fun i hi => ((key i).choose_spec hi).1, fun i hi => ((key i).choose_spec hi).2⟩
def AllReads (P : Program) (W : World) : List TypeId → List (List Value) → Prop
 | [], [] => True
 | t :: ts, p :: ps => Reads P W t p ∧ AllReads P W ts ps
 | _, _ => False
def contigB (P : Program) (end_ : Nat) : List Field → Nat → Bool
 | [], a => Nat.beq a end_
 | f :: r, a => Nat.beq f.offset a && contigB P end_ r (a + P.cellsOf f.type)
theorem parts_of {P : Program} {W : World} {cs : List Value} {m : Nat} (hm : cs.length = m) : ∀ (l : List Field) (a : Nat), (∀ f ∈ l, Reads P W f.type ((cs.drop f.offset).take (P.cellsOf f.type))) → contigB P m l a = true →
  ∃ ps : List (List Value), cs.drop a = ps.flatten ∧ AllReads P W (l.map (·.type)) ps
 | [], a, _, hc => ⟨[], by
   have : a = m := Nat.eq_of_beq_eq_true hc
   rw [List.drop_eq_nil_of_le (by omega)]; rfl, trivial⟩
 | f :: r, a, h, hc => by
  simp only [contigB, Bool.and_eq_true] at hc
  have e : f.offset = a := Nat.eq_of_beq_eq_true hc.1
  obtain ⟨ps, e1, e2⟩ := parts_of hm r (a + P.cellsOf f.type) (fun x hx => h x (by simp [hx])) hc.2
  have h0 := h f (by simp)
  rw [e] at h0
  refine ⟨(cs.drop a).take (P.cellsOf f.type) :: ps, ?_, h0, e2⟩
  rw [List.flatten_cons, ← e1, ← List.drop_drop, List.take_append_drop]
theorem Reads.parts {P : Program} {W : World} {t : TypeId} {cs : List Value} {fs : List Field} (ht : P.underlying t = some (.struct fs.toArray)) (hc : contigB P (P.cellsOf t) fs 0 = true) (h : Reads P W t cs) :
  ∃ ps : List (List Value), cs = ps.flatten ∧ AllReads P W (fs.map (·.type)) ps := by
 obtain ⟨h1, h2⟩ := h.struct ht
 obtain ⟨ps, e1, e2⟩ := parts_of (P := P) (W := W) h1 fs 0 (fun f hf => by
  obtain ⟨i, hi⟩ := List.getElem?_of_mem hf
  exact h2 i f (by simpa using hi)) hc
 exact ⟨ps, by simpa using e1, e2⟩
/-! ### Messages, packets, steps -/
theorem u8_back {z : Int} (h : IntKind.min .u8 ≤ z ∧ z ≤ IntKind.max .u8) : (((UInt8.ofNat z.toNat).toNat : Nat) : Int) = z := by
 have h1 : (0 : Int) ≤ z := h.1
 have h2 : z ≤ 255 := h.2
 rw [UInt8.toNat_ofNat']
 omega
theorem reads_vecT {W : World} {cs : List Value} (h : Reads Tryz.prog W 44 cs) : ∃ d : Nat → Int, (∀ i, i < 11 → 0 ≤ d i ∧ d i ≤ 18446744073709551615) ∧ cs = v11 d := by
 obtain ⟨d, e, hd⟩ := h.ints Tryz.underlying44 Tryz.underlying42 (by kernel_rfl) (by kernel_rfl)
 exact ⟨d, fun i hi => hd i hi, e⟩
theorem reads_32 {W : World} {cs : List Value} (h : Reads Tryz.prog W 47 cs) : ∃ d : Nat → UInt8, cs = b32 d := by
 obtain ⟨d, e, hb⟩ := h.ints Tryz.underlying47 Tryz.underlying5 (by kernel_rfl) (by kernel_rfl)
 refine ⟨fun i => UInt8.ofNat (d i).toNat, ?_⟩
 have e2 : b32 (fun i => UInt8.ofNat (d i).toNat) = (List.range 32).map (fun i => Value.int .u8 ((UInt8.ofNat (d i).toNat).toNat : Nat)) := rfl
 rw [e, e2]
 refine List.map_congr_left fun i hi => ?_
 rw [List.mem_range] at hi
 rw [u8_back (hb i hi)]
theorem reads_pair {W : World} {cs : List Value} (h : Reads Tryz.prog W 88 cs) : ∃ x : Int × Int, True ∧ cs = pairV x := by
 obtain ⟨ps, rfl, hh⟩ := h.parts Tryz.underlying88 (by kernel_rfl)
 have h : AllReads Tryz.prog W [3, 42] ps := hh
 match ps, h with
 | [p0, p1], ⟨r0, r1, _⟩ =>
  obtain ⟨z0, rfl, _⟩ := r0.int Tryz.underlying3
  obtain ⟨z1, rfl, _⟩ := r1.int Tryz.underlying42
  exact ⟨(z0, z1), trivial, rfl⟩
theorem reads_op {W : World} {cs : List Value} (h : Reads Tryz.prog W 46 cs) : ∃ (k : UInt8) (a b c d : ByteArray) (n : Int), cs = [.int .u8 (k.toNat : Nat), .string a, .string b, .string c, .string d, .int .u64 n] ∧ 0 ≤ n ∧ n ≤ 18446744073709551615 := by
 obtain ⟨ps, rfl, hh⟩ := h.parts Tryz.underlying46 (by kernel_rfl)
 have h : AllReads Tryz.prog W [5, 9, 9, 9, 9, 42] ps := hh
 match ps, h with
 | [p0, p1, p2, p3, p4, p5], ⟨r0, r1, r2, r3, r4, r5, _⟩ =>
  obtain ⟨z0, rfl, hz⟩ := r0.int Tryz.underlying5
  obtain ⟨s1, rfl, _⟩ := r1.string Tryz.underlying9
  obtain ⟨s2, rfl, _⟩ := r2.string Tryz.underlying9
  obtain ⟨s3, rfl, _⟩ := r3.string Tryz.underlying9
  obtain ⟨s4, rfl, _⟩ := r4.string Tryz.underlying9
  obtain ⟨z5, rfl, h5⟩ := r5.int Tryz.underlying42
  refine ⟨UInt8.ofNat z0.toNat, s1, s2, s3, s4, z5, ?_, h5⟩
  rw [u8_back hz]
  rfl
theorem reads_req {W : World} {cs : List Value} (h : Reads Tryz.prog W 49 cs) : ∃ r : Req, r.Ok ∧ cs = r.vals := by
 obtain ⟨ps, rfl, hh⟩ := h.parts Tryz.underlying49 (by kernel_rfl)
 have h : AllReads Tryz.prog W [3, 42, 46, 47] ps := hh
 match ps, h with
 | [p0, p1, p2, p3], ⟨r0, r1, r2, r3, _⟩ =>
  obtain ⟨z0, rfl, _⟩ := r0.int Tryz.underlying3
  obtain ⟨z1, rfl, h1⟩ := r1.int Tryz.underlying42
  obtain ⟨k, a, b, c, d, n, rfl, hn⟩ := reads_op r2
  obtain ⟨t, rfl⟩ := reads_32 r3
  exact ⟨⟨z0, z1, k, a, b, c, d, n, t⟩, ⟨h1, hn⟩, rfl⟩
theorem reads_body {W : World} {cs : List Value} (h : Reads Tryz.prog W 52 cs) : ∃ (x : Bod) (q : Option Addr) (c : Nat), x.Ok ∧ QAt (memOf W) q x.q ∧ cs = x.vals q c := by
 obtain ⟨ps, rfl, hh⟩ := h.parts Tryz.underlying52 (by kernel_rfl)
 have h : AllReads Tryz.prog W [5, 42, 42, 49, 50, 47] ps := hh
 match ps, h with
 | [p0, p1, p2, p3, p4, p5], ⟨r0, r1, r2, r3, r4, r5, _⟩ =>
  obtain ⟨z0, rfl, hz⟩ := r0.int Tryz.underlying5
  obtain ⟨z1, rfl, h1⟩ := r1.int Tryz.underlying42
  obtain ⟨z2, rfl, h2⟩ := r2.int Tryz.underlying42
  obtain ⟨r, hr, rfl⟩ := reads_req r3
  obtain ⟨p, c, xs, rfl, _, _, _, hat⟩ := r4.list (sz := 2) Tryz.underlying50 (by kernel_rfl) (by decide) fun cs => reads_pair
  obtain ⟨t, rfl⟩ := reads_32 r5
  refine ⟨⟨UInt8.ofNat z0.toNat, z1, z2, r, xs, t⟩, p, c, ⟨h1, h2, hr⟩, hat, ?_⟩
  unfold Bod.vals
  rw [u8_back hz]
  rfl
def MV.Has (f : Frag) (x : MV) : Prop := QAt f x.qp x.m.body.q ∧ x.m.body.Ok
def Msg.Typ (m : Msg) : Prop := m.body.Ok ∧ ∀ i, i < 11 → 0 ≤ m.deps i
theorem reads_msgT {W : World} {cs : List Value} (h : Reads Tryz.prog W 54 cs) : ∃ x : MV, x.Has (memOf W) ∧ x.m.Typ ∧ cs = x.vals := by
 obtain ⟨ps, rfl, hh⟩ := h.parts Tryz.underlying54 (by kernel_rfl)
 have h : AllReads Tryz.prog W [3, 42, 44, 52, 47] ps := hh
 match ps, h with
 | [p0, p1, p2, p3, p4], ⟨r0, r1, r2, r3, r4, _⟩ =>
  obtain ⟨z0, rfl, _⟩ := r0.int Tryz.underlying3
  obtain ⟨z1, rfl, _⟩ := r1.int Tryz.underlying42
  obtain ⟨d, hd, rfl⟩ := reads_vecT r2
  obtain ⟨x, q, c, hx, hq, rfl⟩ := reads_body r3
  obtain ⟨t, rfl⟩ := reads_32 r4
  exact ⟨⟨⟨z0, z1, d, x, t⟩, q, c⟩, ⟨hq, hx⟩, ⟨hx, fun i hi => (hd i hi).1⟩, rfl⟩
theorem reads_msg {W : World} {cs : List Value} (h : Reads Tryz.prog W 54 cs) : ∃ x : MV, x.Has (memOf W) ∧ cs = x.vals := by
 obtain ⟨x, h1, _, h2⟩ := reads_msgT h
 exact ⟨x, h1, h2⟩
end Go.Proofs.YtdcjlgigcbinjaaGreatDoor

namespace Go.Proofs.YtdcjlgigcbinjaaGreatDoor
open Go
/-! ### Cells that are told apart by eqC alone -/
/-! ### What the same bodies, and messages, have in common -/
def rngH (g : Nat → HP) : Nat → List HP
 | 0 => []
 | k + 1 => g k :: rngH g k
def fam (g : Nat → HP) (k : Nat) : HP := fun h => stars (rngH g k) h
def updF {α : Type} (g : Nat → α) (i : Nat) (x : α) : Nat → α := fun j => if j = i then x else g j
theorem zam {α : Type} (g : Nat → α) (i : Nat) (x : α) : updF g i x i = x := if_pos rfl
theorem updF_ne {α : Type} (g : Nat → α) {i j : Nat} (x : α) (h : j ≠ i) : updF g i x j = g j := if_neg h
theorem updF_self {α : Type} (g : Nat → α) (i : Nat) : updF g i (g i) = g := by
 funext j; unfold updF; split
 ·rename_i h; rw [h]
 ·rfl
theorem updF_updF {α : Type} (g : Nat → α) (i : Nat) (x y : α) : updF (updF g i x) i y = updF g i y := by
 funext j; unfold updF; split <;> rfl
theorem rngH_congr {g g' : Nat → HP} : ∀ k, (∀ j, j < k → g j = g' j) → rngH g k = rngH g' k
 | 0, _ => rfl
 | k + 1, h => by unfold rngH; rw [h k (by omega), rngH_congr k fun j hj => h j (by omega)]
theorem fam_pull {g : Nat → HP} {i : Nat} : ∀ {k : Nat}, i < k → stars (rngH g k) = star (g i) (stars (rngH (updF g i emp) k))
 | 0, h => by omega
 | k + 1, h => by
  by_cases e : i = k
  ·subst e
   have e1 : rngH (updF g i emp) i = rngH g i := rngH_congr i fun j hj => updF_ne g emp (by omega)
   show star (g i) (stars (rngH g i)) = star (g i) (star (updF g i emp i) (stars (rngH (updF g i emp) i)))
   rw [zam, emp_star, e1]
  ·show star (g k) (stars (rngH g k)) = star (g i) (star (updF g i emp k) (stars (rngH (updF g i emp) k)))
   rw [fam_pull (g := g) (i := i) (k := k) (by omega), updF_ne g emp (fun h => e h.symm), zan]
theorem fam_put {g : Nat → HP} {i k : Nat} {x : HP} (h : i < k) : star x (stars (rngH (updF g i emp) k)) = stars (rngH (updF g i x) k) := by
 rw [fam_pull (g := updF g i x) h, zam, updF_updF]
theorem fam_pullA {g : Nat → HP} {i k : Nat} (A : List HP) (h : i < k) : stars (fam g k :: A) = stars (g i :: fam (updF g i emp) k :: A) := by
 show star (stars (rngH g k)) (stars A) = star (g i) (star (stars (rngH (updF g i emp) k)) (stars A))
 rw [fam_pull h, zat]
theorem fam_putA {g : Nat → HP} {i k : Nat} {x : HP} (A : List HP) (h : i < k) : stars (x :: fam (updF g i emp) k :: A) = stars (fam (updF g i x) k :: A) := by
 show star x (star (stars (rngH (updF g i emp) k)) (stars A)) = star (stars (rngH (updF g i x) k)) (stars A)
 rw [← zat, fam_put h]
section
variable {P : Program} {base : World} {n : Nat} {L : Env} {f : Frag} {A : List HP} {K : Kont} {g : Nat → HP} {i k : Nat}
theorem H.famPull (h : i < k) (kk : H P base n L f (g i :: fam (updF g i emp) k :: A) K) : H P base n L f (fam g k :: A) K :=
 H.conv (fam_pullA A h) kk
theorem H.famPut {x : HP} (h : i < k) (kk : H P base n L f (fam (updF g i x) k :: A) K) : H P base n L f (x :: fam (updF g i emp) k :: A) K :=
 H.conv (fam_putA A h) kk
theorem H.famBack (h : i < k) (kk : H P base n L f (fam g k :: A) K) : H P base n L f (g i :: fam (updF g i emp) k :: A) K :=
 H.famPut h (by rw [updF_self]; exact kk)
end
abbrev Strm := Nat → List Msg
def aboveB (a b : Nat → Int) : Bool := (List.range 11).any fun i => decide (b i < a i)
def knownS (S : Strm) : Nat → Int := fun i => ((S i).length : Nat)
def orgI (m : Msg) : Nat := (m.origin - 1).toNat
def fitsB (n : Nat) (m : Msg) : Bool := m.may && (decide (m.origin ≤ (n : Int)) && (m.body.q.all (fun p => decide (p.1 ≤ (n : Int))) && (List.range 11).all (fun i => decide (i < n) || decide (m.deps i ≤ 0))))
def lastD (l : List Msg) : Nat → Int := match l.getLast? with
 | some x => x.deps
 | none => fun _ => 0
def chk (n : Nat) (S : Strm) (m : Msg) : Int :=
 if fitsB n m = false then 1 else if m.right = false then 11 else
 if m.number ≤ ((S (orgI m)).length : Nat) then 13 else
 if m.number = (((S (orgI m)).length + 1 : Nat) : Int) ∧ 0 < (S (orgI m)).length ∧ aboveB (lastD (S (orgI m))) m.deps = true then 1 else
 if (((S (orgI m)).length + 1 : Nat) : Int) < m.number ∨ aboveB m.deps (knownS S) = true then 12 else 0
/-! ### The streams of a list of messages -/
def clientW : List UInt8 := [114, 97, 116, 99, 104, 101, 116, 32, 99, 108, 105, 101, 110, 116]
def Req.sig (r : Req) : Nat → UInt8 := Sha.hmac (Sha.word32 clientW r.client) r.bytes
def Req.signed (r : Req) : Req := if r.asked then { r with tag := r.sig } else r
def Req.auth (r : Req) : Bool := decide r.asked && eq32 r.tag r.sig
theorem Req.bytes_max {r : Req} (h : r.asked) : r.bytes.length ≤ 1000 := by
 obtain ⟨_, _, _, _, ⟨h1, h2⟩, h3, h4⟩ := h
 rw [Req.bytes_len]
 omega
theorem req_tag {f : Frag} {A A' : List HP} {rb : Nat} {T : TypeId} {r : Req} (h : At A (row rb T r.vals) A' (row rb T r.vals)) : Rd f A rb (0 + 8) (b32 r.tag) := by
 have h1 := Rd.ofRow (f := f) h
 have e : r.vals = [.int .i64 r.client, .int .u64 r.time, .int .u8 (r.kind.toNat : Nat), .string r.key, .string r.val, .string r.old, .string r.to, .int .u64 r.amount] ++ b32 r.tag ++ [] := by unfold Req.vals; rw [List.append_nil]
 rw [e] at h1
 exact h1.sub rfl
theorem splice_rtag (r : Req) (t : Nat → UInt8) : splice r.vals (0 + 8) (b32 t) = ({ r with tag := t } : Req).vals := rfl
section
variable {P : Program} {base : World} {n : Nat} {L : Env} {f : Frag} {A V : List HP} {q : Post} {l rest : List Oper} {d : Nat} {ty : TypeId} {pos : String} {af : Array Edge} {gd : Option (Nat × Bool)}
end
structure Vw where
 v : Int
 num : Int
 s : List Req
 p : List (Int × Req)
def Vw.all (w : Vw) : List Req := w.s ++ w.p.map Prod.snd
theorem Vw.all_len (w : Vw) : w.all.length = w.s.length + w.p.length := by unfold Vw.all; rw [List.length_append, List.length_map]
structure Lgs where
 n : Nat
 known : Nat → Int
 vs : List Vw
 past : Nat → PM
 ch : Nat → List (Int × Int)
def Lgs.new (n : Nat) : Lgs := ⟨n, fun _ => 0, [⟨0, 0, [], []⟩], fun _ => PM.new, fun _ => []⟩
def vwAt : List Vw → Int → Option Nat
 | [], _ => none
 | w :: r, v => if w.v = v then some 0 else (vwAt r v).map (· + 1)
theorem zak {vs : List Vw} {v : Int} {i : Nat} : vwAt vs v = some i ↔ (∃ w, vs[i]? = some w ∧ w.v = v) ∧ ∀ j w, j < i → vs[j]? = some w → w.v ≠ v := by
 induction vs generalizing i with
 | nil => simp [vwAt]
 | cons w r ih =>
  unfold vwAt
  by_cases h : w.v = v
  ·rw [if_pos h]
   refine ⟨fun e => ?_, fun ⟨_, e⟩ => ?_⟩
   ·cases e
    exact ⟨⟨w, rfl, h⟩, fun j w hj => by omega⟩
   ·cases i with
    | zero => rfl
    | succ i => exact absurd h (e 0 w (by omega) rfl)
  ·rw [if_neg h]
   cases i with
   | zero =>
    refine ⟨fun e => ?_, fun ⟨⟨w', e, e2⟩, _⟩ => ?_⟩
    ·cases hr : vwAt r v <;> rw [hr] at e <;> cases e
    ·cases e; exact absurd e2 h
   | succ i =>
    refine ⟨fun e => ?_, fun ⟨⟨w', e, e2⟩, e3⟩ => ?_⟩
    ·have e' : vwAt r v = some i := by
      cases hr : vwAt r v with
      | none => rw [hr] at e; cases e
      | some k => rw [hr] at e; simp at e; rw [e]
     obtain ⟨⟨w', e1, e2⟩, e3⟩ := ih.1 e'
     refine ⟨⟨w', e1, e2⟩, fun j x hj hx => ?_⟩
     cases j with
     | zero => cases hx; exact h
     | succ j => exact e3 j x (by omega) hx
    ·rw [ih.2 ⟨⟨w', e, e2⟩, fun j x hj hx => e3 (j + 1) x (by omega) hx⟩]
     rfl
theorem vwAt_none {vs : List Vw} {v : Int} : vwAt vs v = none ↔ ∀ w ∈ vs, w.v ≠ v := by
 induction vs with
 | nil => simp [vwAt]
 | cons w r ih =>
  unfold vwAt
  by_cases h : w.v = v
  ·rw [if_pos h]; simp [h]
  ·rw [if_neg h]
   cases hr : vwAt r v with
   | none => simp [h]; exact ih.1 hr
   | some k =>
    simp
    intro _
    obtain ⟨⟨w', e1, e2⟩, _⟩ := zak.1 hr
    exact ⟨w', List.mem_of_getElem? e1, e2⟩
def vwZ (vs : List Vw) (v : Int) : Int := match vwAt vs v with
 | none => -1
 | some i => (i : Nat)
def primI (n : Nat) (v : Int) : Nat := (v % (n : Int)).toNat
def primZ (n : Nat) (v : Int) : Int := 1 + ((primI n v : Nat) : Int)
def holdsB (l : List Req) (c t : Int) : Bool := l.any fun r => decide (r.client = c) && decide (r.time = t)
def chB (l : Lgs) (q : Int × Int) (v : Int) : Bool := (l.ch (q.1 - 1).toNat).any fun c => decide (c.1 = v) && decide (c.2 = q.2)
def bestOf (bv : Int) : List (Int × Int) → Int × Int → Int × Int
 | [], a => a
 | x :: r, a => bestOf bv r (if x.1 < bv ∧ (a.1 < x.1 ∨ (x.1 = a.1 ∧ a.2 < x.2)) then x else a)
def bestQ (past : Nat → PM) (bv : Int) : List (Int × Int) → Int × Int → Int × Int
 | [], a => a
 | q :: r, a => bestQ past bv r (bestOf bv (past (q.1 - 1).toNat).all a)
def insKF (v : Int) (vs : List Vw) : Nat → Nat
 | 0 => 0
 | k + 1 => match vs[k]? with
  | none => k + 1
  | some x => if v < x.v then insKF v vs k else k + 1
def insK (v : Int) (vs : List Vw) : Nat := insKF v vs vs.length
def insV (w : Vw) (vs : List Vw) : List Vw := vs.take (insK w.v vs) ++ w :: vs.drop (insK w.v vs)
theorem insKF_le (v : Int) (vs : List Vw) : ∀ k, insKF v vs k ≤ k
 | 0 => Nat.le_refl 0
 | k + 1 => by
  unfold insKF
  split
  ·exact Nat.le_refl _
  ·split
   ·exact Nat.le_succ_of_le (insKF_le v vs k)
   ·exact Nat.le_refl _
theorem insKF_above (v : Int) (vs : List Vw) : ∀ k j x, insKF v vs k ≤ j → j < k → vs[j]? = some x → v < x.v
 | 0, j, x, _, h, _ => by omega
 | k + 1, j, x, h1, h2, hx => by
  unfold insKF at h1
  cases hk : vs[k]? with
  | none => rw [hk] at h1; simp only at h1; omega
  | some y =>
   rw [hk] at h1
   simp only at h1
   by_cases hv : v < y.v
   ·rw [if_pos hv] at h1
    by_cases e : j = k
    ·subst e; rw [hk] at hx; cases hx; exact hv
    ·exact insKF_above v vs k j x h1 (by omega) hx
   ·rw [if_neg hv] at h1; omega
theorem insKF_below (v : Int) (vs : List Vw) : ∀ k x, 0 < insKF v vs k → vs[insKF v vs k - 1]? = some x → ¬ v < x.v
 | 0, x, h, _ => by unfold insKF at h; omega
 | k + 1, x, h, hx => by
  unfold insKF at h hx
  cases hk : vs[k]? with
  | none => rw [hk] at hx; simp only [Nat.add_sub_cancel] at hx; rw [hk] at hx; cases hx
  | some y =>
   rw [hk] at h hx
   simp only at h hx
   by_cases hv : v < y.v
   ·rw [if_pos hv] at h hx
    exact insKF_below v vs k x h hx
   ·rw [if_neg hv, Nat.add_sub_cancel, hk] at hx
    cases hx
    exact hv
theorem insV_perm (w : Vw) (vs : List Vw) : (w :: vs).Perm (insV w vs) := by
 unfold insV
 conv => lhs; rw [← List.take_append_drop (insK w.v vs) vs]
 exact List.perm_middle.symm
theorem bestOf_mem (bv : Int) : ∀ (l : List (Int × Int)) (a : Int × Int), bestOf bv l a = a ∨ bestOf bv l a ∈ l
 | [], a => .inl rfl
 | x :: r, a => by
  unfold bestOf
  split
  ·rcases bestOf_mem bv r x with h | h
   ·rw [h]; exact .inr (by simp)
   ·exact .inr (List.mem_cons_of_mem _ h)
  ·rcases bestOf_mem bv r a with h | h
   ·exact .inl h
   ·exact .inr (List.mem_cons_of_mem _ h)
theorem bestQ_mem (past : Nat → PM) (bv : Int) : ∀ (q : List (Int × Int)) (a : Int × Int), bestQ past bv q a = a ∨ ∃ p ∈ q, bestQ past bv q a ∈ (past (p.1 - 1).toNat).all
 | [], a => .inl rfl
 | x :: r, a => by
  unfold bestQ
  rcases bestQ_mem past bv r (bestOf bv (past (x.1 - 1).toNat).all a) with h | ⟨p, hp, h⟩
  ·rw [h]
   rcases bestOf_mem bv (past (x.1 - 1).toNat).all a with h2 | h2
   ·exact .inl h2
   ·exact .inr ⟨x, by simp, h2⟩
  ·exact .inr ⟨p, List.mem_cons_of_mem _ hp, h⟩
def Lgs.begins (l : Lgs) (m : Msg) : Bool × Lgs :=
 if m.body.q.length ≠ (l.n - 1) / 2 + 1 then (false, l) else
 if (m.body.q.all fun q => decide (q.2 ≤ m.deps (q.1 - 1).toNat) && chB l q m.body.view) = false then (false, l) else
 if (l.past (orgI m)).enterOk m.body.view (bestQ l.past m.body.view m.body.q (0, 0)).2 = false then (false, l) else
 (true, { l with
  past := updF l.past (orgI m) ((l.past (orgI m)).enter m.body.view (bestQ l.past m.body.view m.body.q (0, 0)).2)
  vs := insV ⟨m.body.view, m.number, ((match vwAt l.vs (bestQ l.past m.body.view m.body.q (0, 0)).1 with | none => [] | some i => (l.vs[i]?.map Vw.all).getD []).take (bestQ l.past m.body.view m.body.q (0, 0)).2.toNat), []⟩ l.vs })
def knowsV (w : Vw) (d : Int) : Nat := w.s.length + (w.p.filter fun x => decide (x.1 ≤ d)).length
def Lgs.doPast (l : Lgs) (r : Nat) (p : PM) : Lgs := { l with past := updF l.past r p }
def Lgs.counts (l : Lgs) (m : Msg) : Bool × Lgs :=
 let r := orgI m
 let p := l.past r
 let b := m.body
 let prim := decide (primZ l.n b.view = m.origin)
 let d := m.deps (primI l.n b.view)
 if b.kind = 3 then
  if p.changeOk b.view = true then (true, { l with past := updF l.past r (p.change b.view), ch := updF l.ch r (l.ch r ++ [(b.view, m.number)]) }) else (false, l)
 else if b.kind = 4 then (if prim = true then l.begins m else (false, l))
 else if b.kind = 5 then
  match vwAt l.vs b.view with
  | none => (false, l)
  | some i => match l.vs[i]? with
   | none => (false, l)
   | some w => if d < w.num then (false, l) else (p.enterOk b.view w.s.length, l.doPast r (p.enter b.view w.s.length))
 else if b.kind = 1 then
  match vwAt l.vs b.view with
  | none => (false, l)
  | some i => match l.vs[i]? with
   | none => (false, l)
   | some w => if prim = false ∨ b.req.auth = false ∨ holdsB w.all b.req.client b.req.time = true ∨ p.isOpen b.view = false then (false, l) else
    (true, { l with past := updF l.past r (p.prepare b.view), vs := l.vs.set i { w with p := w.p ++ [(m.number, b.req)] } })
 else if b.kind = 2 then
  match vwAt l.vs b.view with
  | none => (false, l)
  | some i => match l.vs[i]? with
   | none => (false, l)
   | some w => if prim = true then (false, l) else (p.commitOk b.view b.k (knowsV w d), l.doPast r (p.commit b.view b.k (knowsV w d)))
 else (decide (b.kind = 6), l)
def qIn (n : Nat) (m : Msg) : Bool := m.body.q.all fun p => decide (p.1 ≤ (n : Int))
def depsIn (m : Msg) (k : Nat → Int) : Bool := (List.range 11).all fun i => decide (m.deps i ≤ k i)
def Lgs.take (l : Lgs) (m : Msg) : (Bool × Int) × Lgs :=
 if m.may = false ∨ (l.n : Int) < m.origin ∨ qIn l.n m = false then ((false, 1), l) else
 if m.number ≠ l.known (orgI m) + 1 ∨ depsIn m l.known = false then ((false, 12), l) else
 (((l.counts m).1, 0), { (l.counts m).2 with known := updF (l.counts m).2.known (orgI m) ((l.counts m).2.known (orgI m) + 1) })
structure MIn (n : Nat) (m : Msg) : Prop where
 o : 1 ≤ m.origin ∧ m.origin ≤ (n : Int)
 q : ∀ p ∈ m.body.q, 1 ≤ p.1 ∧ p.1 ≤ (n : Int)
 v : 0 ≤ m.body.view
structure LI (l : Lgs) (T : Nat) : Prop where
 n3 : 3 ≤ l.n ∧ l.n ≤ 11
 kn : ∀ i, 0 ≤ l.known i ∧ l.known i ≤ (T : Int)
 wf : ∀ r, r < l.n → PM.WF (l.past r) T
 il : ∀ r, r < l.n → (l.past r).init.length ≤ T
 vl : l.vs.length ≤ T + 1
 cl : ∀ r, (l.ch r).length ≤ T
 al : ∀ w ∈ l.vs, w.all.length ≤ T
 log : ∀ r, r < l.n → ∀ p ∈ (l.past r).all, ∃ w ∈ l.vs, w.v = p.1 ∧ p.2 ≤ (w.all.length : Int)
 zero : ∃ w ∈ l.vs, w.v = 0
 rise : (l.vs.map Vw.v).Pairwise (· < ·)
 begun : ∀ w ∈ l.vs, w.v ≠ 0 → ∃ p ∈ (l.past (primI l.n w.v)).all, p.1 = w.v
 gb : ∀ r, r < l.n → (l.past r).g < 1073741824
theorem vwAt_mem {vs : List Vw} (h : (vs.map Vw.v).Pairwise (· < ·)) {w : Vw} (hw : w ∈ vs) : ∃ i, vwAt vs w.v = some i ∧ vs[i]? = some w := by
 obtain ⟨i, hi⟩ := List.getElem?_of_mem hw
 refine ⟨i, zak.2 ⟨⟨w, hi, rfl⟩, fun j x hj hx e => ?_⟩, hi⟩
 have h1 := (List.getElem?_eq_some_iff.1 hi)
 have h2 := (List.getElem?_eq_some_iff.1 hx)
 have := List.pairwise_iff_getElem.1 h j i (by rw [List.length_map]; exact h2.1) (by rw [List.length_map]; exact h1.1) hj
 rw [List.getElem_map, List.getElem_map, h1.2, h2.2, e] at this
 omega
theorem LI.best {l : Lgs} {T : Nat} (h : LI l T) {m : Msg} (hm : MIn l.n m) : ∃ i w, vwAt l.vs (bestQ l.past m.body.view m.body.q (0, 0)).1 = some i ∧ l.vs[i]? = some w ∧ 0 ≤ (bestQ l.past m.body.view m.body.q (0, 0)).2 ∧ (bestQ l.past m.body.view m.body.q (0, 0)).2 ≤ (w.all.length : Int) := by
 rcases bestQ_mem l.past m.body.view m.body.q (0, 0) with e | ⟨p, hp, hb⟩
 ·rw [e]
  obtain ⟨w, hw, h0⟩ := h.zero
  obtain ⟨i, h1, h2⟩ := vwAt_mem h.rise hw
  rw [h0] at h1
  exact ⟨i, w, h1, h2, Int.le_refl 0, by show (0 : Int) ≤ _; omega⟩
 ·have hq := hm.q p hp
  have hr : (p.1 - 1).toNat < l.n := by omega
  obtain ⟨w, hw, h0, h3⟩ := h.log _ hr _ hb
  obtain ⟨i, h1, h2⟩ := vwAt_mem h.rise hw
  rw [h0] at h1
  exact ⟨i, w, h1, h2, ((h.wf _ hr).low _ hb).2.2.1, h3⟩
section
variable (f : Frag) (F : List HP) (b : Nat) (s : PM)
end
section
variable (f : Frag) (F : List HP) (b : Nat) (s : PM)
end
def lst (xs : List HP) : HP := fun h => stars xs h
theorem lst_pull {x : HP} : ∀ {xs : List HP} {i : Nat}, xs[i]? = some x → stars xs = star x (stars (xs.set i emp))
 | [], i, h => by simp at h
 | y :: r, 0, h => by
  have e : y = x := by simpa using h
  subst e
  show star y (stars r) = star y (star emp (stars r))
  rw [emp_star]
 | y :: r, i + 1, h => by
  show star y (stars r) = star x (star y (stars (r.set i emp)))
  rw [lst_pull (xs := r) (i := i) (by simpa using h), zan]
theorem set_get {α : Type} {xs : List α} {i : Nat} {x y : α} (h : xs[i]? = some x) : (xs.set i y)[i]? = some y := by
 rw [List.getElem?_set_self (List.getElem?_eq_some_iff.1 h).1]
theorem lst_put {x0 x : HP} {xs : List HP} {i : Nat} (h : xs[i]? = some x0) : star x (stars (xs.set i emp)) = stars (xs.set i x) := by
 rw [lst_pull (xs := xs.set i x) (i := i) (set_get h), List.set_set]
theorem lst_perm {a b : List HP} (h : a.Perm b) : stars a = stars b := by
 induction h with
 | nil => rfl
 | cons x _ ih => show star x _ = star x _; rw [ih]
 | swap x y l => show star y (star x _) = star x (star y _); rw [zan]
 | trans _ _ h1 h2 => exact h1.trans h2
theorem set_self {α : Type} {xs : List α} {i : Nat} {x : α} (h : xs[i]? = some x) : xs.set i x = xs := by
 apply List.ext_getElem?
 intro j
 rw [List.getElem?_set]
 split
 ·rename_i e
  subst e
  rw [h]
  split
  ·rfl
  ·rename_i h2
   exact absurd (List.getElem?_eq_some_iff.1 h).1 h2
 ·rfl
theorem lst_pullA {x : HP} {xs : List HP} {i : Nat} (A : List HP) (h : xs[i]? = some x) : stars (lst xs :: A) = stars (x :: lst (xs.set i emp) :: A) := by
 show star (stars xs) (stars A) = star x (star (stars (xs.set i emp)) (stars A))
 rw [lst_pull h, zat]
theorem lst_putA {x0 x : HP} {xs : List HP} {i : Nat} (A : List HP) (h : xs[i]? = some x0) : stars (x :: lst (xs.set i emp) :: A) = stars (lst (xs.set i x) :: A) := by
 show star x (star (stars (xs.set i emp)) (stars A)) = star (stars (xs.set i x)) (stars A)
 rw [← zat, lst_put h]
theorem lst_moreA {x : HP} {xs ys : List HP} (A : List HP) (h : (x :: xs).Perm ys) : stars (x :: lst xs :: A) = stars (lst ys :: A) := by
 show star x (star (stars xs) (stars A)) = star (stars ys) (stars A)
 rw [← zat, ← lst_perm h]
 rfl
section
variable {P : Program} {base : World} {n : Nat} {L : Env} {f : Frag} {A : List HP} {K : Kont} {xs : List HP} {i : Nat}
theorem H.lstPull {x : HP} (h : xs[i]? = some x) (kk : H P base n L f (x :: lst (xs.set i emp) :: A) K) : H P base n L f (lst xs :: A) K := H.conv (lst_pullA A h) kk
theorem H.lstPut {x0 x : HP} (h : xs[i]? = some x0) (kk : H P base n L f (lst (xs.set i x) :: A) K) : H P base n L f (x :: lst (xs.set i emp) :: A) K := H.conv (lst_putA A h) kk
theorem H.lstBack {x : HP} (h : xs[i]? = some x) (kk : H P base n L f (lst xs :: A) K) : H P base n L f (x :: lst (xs.set i emp) :: A) K := H.lstPut h (by rw [set_self h]; exact kk)
end
/-! ### Rows of cells, one for each number below a bound -/
def rngV (n : Nat) (g : Nat → Value) : List Value := (List.range n).map g
def fewZ (z : Int) : Prop := 3 ≤ z ∧ z ≤ 11 ∧ z.tmod 2 = 1
instance (z : Int) : Decidable (fewZ z) := by unfold fewZ; infer_instance
section
variable (f : Frag) (F : List HP)
end
end Go.Proofs.YtdcjlgigcbinjaaGreatDoor

namespace Go.Proofs.YtdcjlgigcbinjaaGreatDoor
open Go Go.ChangeShapes Go.WideShapes Go.RowKit Go.Deep
theorem v11_upd (d : Nat → Int) (v : Int) {k : Nat} (h : k < 11) : SetV (v11 d) k (.int .u64 v) (v11 (updF d k v)) := by
 have e : v11 (updF d k v) = (v11 d).set k (.int .u64 v) := by
  match k, h with
  | 0, _ => rfl
  | 1, _ => rfl
  | 2, _ => rfl
  | 3, _ => rfl
  | 4, _ => rfl
  | 5, _ => rfl
  | 6, _ => rfl
  | 7, _ => rfl
  | 8, _ => rfl
  | 9, _ => rfl
  | 10, _ => rfl
 rw [e]
 exact SetV.mk _ h
section
variable (f : Frag) (F : List HP)
end
end Go.Proofs.YtdcjlgigcbinjaaGreatDoor

namespace Go.Proofs.YtdcjlgigcbinjaaGreatDoor
open Go
section
variable (f : Frag) (F : List HP)
/-! ### slices.ContainsFunc -/
def idxI {α : Type} (pr : α → Bool) (l : List α) : Int := match l.findIdx? pr with
 | some i => (i : Nat)
 | none => -1
theorem idxI_any {α : Type} (pr : α → Bool) (l : List α) : decide (0 ≤ idxI pr l) = l.any pr := by
 unfold idxI
 cases h : l.findIdx? pr with
 | none =>
  rw [List.findIdx?_eq_none_iff] at h
  have : l.any pr = false := by rw [List.any_eq_false]; intro x hx; simp [h x hx]
  rw [this]; decide
 | some i =>
  obtain ⟨hi, h1, _⟩ := List.findIdx?_eq_some_iff_getElem.1 h
  have : l.any pr = true := by rw [List.any_eq_true]; exact ⟨l[i], List.getElem_mem hi, h1⟩
  rw [this]; exact decide_eq_true (show (0 : Int) ≤ (i : Nat) by omega)
theorem idxI_at {α : Type} {pr : α → Bool} {l : List α} {i : Nat} {x : α} (h : l[i]? = some x) (hp : pr x = true) (hb : ∀ j y, j < i → l[j]? = some y → pr y = false) : idxI pr l = (i : Nat) := by
 have hi : i < l.length := by
  rcases Nat.lt_or_ge i l.length with h1 | h1
  ·exact h1
  ·rw [List.getElem?_eq_none h1] at h; cases h
 have hx : l[i] = x := by rw [List.getElem?_eq_getElem hi] at h; exact Option.some.inj h
 have : l.findIdx? pr = some i := List.findIdx?_eq_some_iff_getElem.2 ⟨hi, by rw [hx]; exact hp, fun j hj => by
  have := hb j l[j] hj (List.getElem?_eq_getElem (by omega))
  simp [this]⟩
 unfold idxI
 rw [this]
theorem idxI_none {α : Type} {pr : α → Bool} {l : List α} (hb : ∀ j y, j < l.length → l[j]? = some y → pr y = false) : idxI pr l = -1 := by
 have : l.findIdx? pr = none := by
  rw [List.findIdx?_eq_none_iff]
  intro x hx
  obtain ⟨j, hj⟩ := List.getElem?_of_mem hx
  rcases Nat.lt_or_ge j l.length with h1 | h1
  ·exact hb j x h1 hj
  ·rw [List.getElem?_eq_none h1] at hj; cases hj
 unfold idxI
 rw [this]
theorem idxQ_fn {p : Option Addr} {c : Nat} {q : List (Int × Int)} (hq : QAt f p q) (hl : q.length ≤ 1000000000) {fid : FuncId} {cs : List Value} [Fun Tryz.prog fid] (pr : Int × Int → Bool)
  (hc : ∀ x, x ∈ q → Fn Tryz.prog fid ([] ++ [.agg (pairV x).toArray] ++ cs) f F (Ret (.bool (pr x)) f F)) :
  Fn Tryz.prog 79 [.slice p q.length c, .func (.func fid) #[] cs.toArray] f F (Ret (.int .i64 (idxI pr q)) f F) := by
 refine Fn.enter Tryz.func79 rfl Tryz.ntmps79 rfl (L := [(0, _), (1, _)]) ⟨rfl, rfl, trivial⟩ fun base => ?_
 refine ga ?_
 refine H.Ax (ι := Nat) (fun i => [(8, .int .i64 (i : Int)), (7, .int .i64 (q.length : Nat)), (0, .slice p q.length c), (1, .func (.func fid) #[] cs.toArray)]) (fun _ => f) (fun _ => F) (fun i => i ≤ q.length ∧ ∀ j y, j < i → q[j]? = some y → pr y = false) (fun i => q.length - i) 0 ⟨Nat.zero_le _, fun j y hj => by omega⟩ ⟨rfl, rfl, rfl, rfl, trivial⟩ rfl rfl fun i hi => ?_
 obtain ⟨hi, hb⟩ : i ≤ q.length ∧ ∀ j y, j < i → q[j]? = some y → pr y = false := hi
 by_cases hlt : i < q.length
 ·have hx : q[i]? = some q[i] := List.getElem?_eq_getElem hlt
  generalize q[i] = x at hx
  have hxm := List.mem_of_getElem? hx
  obtain ⟨b, off, cs2, T, fr, rfl, hfb, hcs⟩ := hq i x hx
  have rd : ∀ A, Rd f A b (off + i * 2) (pairV x) := fun A => Rd.imm hfb hcs
  have hcx := hc x hxm
  refine gG ?_
  refine H.Bt rfl rfl rfl rfl hlt rfl ?_
  refine H.Aj (ls := pairV x) rfl rfl rfl (rd _) rfl rfl ?_
  cases hp : pr x with
  | true =>
   rw [hp] at hcx
   refine H.callVR (fs := []) (cs := cs) rfl rfl rfl rfl hcx ?_
   refine gD ?_
   refine H.Ac rfl rfl (fun _ h => h) ⟨?_, rfl, rfl⟩
   rw [idxI_at hx hp hb]
  | false =>
   rw [hp] at hcx
   refine H.callVR (fs := []) (cs := cs) rfl rfl rfl rfl hcx ?_
   refine gR ?_
   refine H.Au (i + 1) ⟨by show i + 1 ≤ q.length; omega, fun j y hj hy => ?_⟩ (by show q.length - (i + 1) < q.length - i; omega) ⟨rfl, rfl, rfl, rfl, trivial⟩ rfl rfl
   by_cases e : j = i
   ·subst e; rw [hx] at hy; cases hy; exact hp
   ·exact hb j y (by omega) hy
 ·have e : i = q.length := by omega
  subst e
  refine gV ?_
  refine H.Ac rfl rfl (fun _ h => h) ⟨?_, rfl, rfl⟩
  rw [idxI_none hb]
theorem hasQ_fn {p : Option Addr} {c : Nat} {q : List (Int × Int)} (hq : QAt f p q) (hl : q.length ≤ 1000000000) {fid : FuncId} {cs : List Value} [Fun Tryz.prog fid] (pr : Int × Int → Bool)
  (hc : ∀ x, x ∈ q → Fn Tryz.prog fid ([] ++ [.agg (pairV x).toArray] ++ cs) f F (Ret (.bool (pr x)) f F)) :
  Fn Tryz.prog 54 [.slice p q.length c, .func (.func fid) #[] cs.toArray] f F (Ret (.bool (q.any pr)) f F) := by
 have h1 := idxI_any pr q
 refine Fn.enter Tryz.func54 rfl Tryz.ntmps54 rfl (L := [(0, _), (1, _)]) ⟨rfl, rfl, trivial⟩ fun base => ?_
 refine gU ?_
 refine H.Ad rfl rfl rfl (idxQ_fn f F hq hl pr hc) ?_
 refine gV ?_
 refine H.Ac rfl rfl (fun _ h => h) ⟨?_, rfl, rfl⟩
 rw [← h1]
end
section
variable (f : Frag) (F : List HP)
end
section
variable (f : Frag) (F : List HP)
end
def msgZ : Msg := ⟨0, 0, fun _ => 0, Bod.zero 0, noTag⟩
section
variable (f : Frag) (F : List HP)
end
section
variable (f : Frag) (F : List HP)
end
section
variable (f : Frag) (F : List HP)
end
section
variable (f : Frag) (F : List HP)
theorem rclient_fn {i : Int} (h1 : 1 ≤ i) (h2 : i ≤ 8) : Fn Tryz.prog 111 [.int .i64 i] f F (BytesR (Sha.word32 clientW i) f F) := by
 refine Fn.enter Tryz.func111 rfl Tryz.ntmps111 rfl (L := [(0, _)]) ⟨rfl, trivial⟩ fun base => ?_
 refine gU ?_
 refine H.Ar rfl rfl rfl (rkey_fn (w := ⟨#[114, 97, 116, 99, 104, 101, 116, 32, 99, 108, 105, 101, 110, 116]⟩) f _ h1 h2 (by decide) (by decide)) fun p1 c1 => ?_
 refine ga ?_
 exact H.Ac rfl rfl (fun _ h => h) ⟨p1, c1, rfl, rfl, rfl⟩
set_option maxHeartbeats 800000 in
theorem rsigned_fn (r : Req) : Fn Tryz.prog 78 [.agg r.vals.toArray] f F (Ret (.agg r.signed.vals.toArray) f F) := by
 have has := fun G => rasked_fn f G r
 unfold Req.signed
 by_cases ha : r.asked
 ·have hbl := Req.bytes_max ha
  have hcl := fun G => rclient_fn f G ha.1 ha.2.1
  have hrq := fun G p c => rrequest_fn f G (p := p) (c := c) (l := []) r ha (by decide)
  have hk : (Sha.word32 clientW r.client).length = 32 := rfl
  rw [if_pos ha]
  rw [decide_eq_true ha] at has
  unfold Req.sig
  generalize Sha.word32 clientW r.client = key at hk hcl ⊢
  rw [show ([] : List UInt8) ++ r.bytes = r.bytes from rfl] at hrq
  generalize r.bytes = rb at hbl hrq ⊢
  refine Fn.enter Tryz.func78 rfl Tryz.ntmps78 rfl (L := [(0, _)]) ⟨rfl, trivial⟩ fun base => ?_
  refine gA ?_
  refine H.box (ls := r.vals) rfl rfl rfl rfl fun qb => ?_
  refine H.Av (ls := Req.zero.vals) rfl rfl rfl fun ob => ?_
  refine gA ?_
  refine H.Aj (ls := r.vals) rfl rfl rfl (Rd.ofRow (.there _ (.here _ _ _))) rfl rfl ?_
  refine H.Ad rfl rfl rfl (has _) ?_
  refine gD ?_
  refine H.Aa (.there _ (.here _ _)) ?_
  refine H.drawC [0, 1, 2, 3, 4, 5] (by kernel_rfl) (by decide +kernel) (by repeat (first | exact zab | refine zaa ?_ | refine zac ?_ | refine zad ?_)) (S := [_]) rfl ?_
  refine HB.Af [(0, false), (1, false), (3, false)] 5 (by kernel_rfl) ?_
  refine gJ ?_
  refine HQ.Aj (ls := r.vals) rfl rfl rfl (Rd.ofRow (.here _ _ _)) rfl rfl ?_
  refine HQ.Ae rfl ?_
  refine HB.ev1 (i := 2) (by kernel_rfl) rfl ?_
  refine H.Ar rfl rfl rfl (hcl _) fun p1 c1 => ?_
  refine gA ?_
  refine H.Aa (.there _ (.here _ _)) ?_
  refine H.on0 rfl ?_
  refine HB.ev1 (i := 4) (by kernel_rfl) rfl ?_
  refine H.slc0 5 1 ?_
  refine H.Ar rfl rfl rfl (hrq _ none 0) fun p2 c2 => ?_
  refine gA ?_
  refine H.Aa (x := row qb _ _) (by repeat constructor) ?_
  refine H.on0 rfl ?_
  refine HB.ev1 (i := 5) (by kernel_rfl) rfl ?_
  refine H.Ad rfl rfl rfl (hmac_fn f _ (key := key) (b := rb) (fun G => Src.append (Src.slcS (by repeat constructor) (by rw [zaf]; exact (Nat.mul_one _).symm))) (fun G => Src.append (Src.slcS (by repeat constructor) (by rw [zaf]; exact (Nat.mul_one _).symm))) (by omega) (by omega)) ?_
  generalize Sha.hmac key rb = t
  refine gA ?_
  refine H.on0 rfl ?_
  refine HB.next [] (by kernel_rfl) (S' := []) rfl ?_
  refine HB.Af [(6, false)] 1 (by kernel_rfl) ?_
  refine gJ ?_
  refine HQ.Ae rfl ?_
  refine HB.ev1 (i := 7) (by kernel_rfl) rfl ?_
  refine H.Ap (ls := r.vals) (vs := b32 t) (ls' := ({ r with tag := t } : Req).vals) rfl rfl rfl (zae rfl) rfl (splice_rtag r t) (by show 0 + 8 + 32 ≤ 40; decide) (.here _ _ _) ?_
  refine gA ?_
  refine H.on0 rfl ?_
  refine HB.Aq (by kernel_rfl) ?_
  refine gA ?_
  refine H.Aj (ls := ({ r with tag := t } : Req).vals) rfl rfl rfl (Rd.ofRow (.here _ _ _)) rfl rfl ?_
  refine H.Ap (ls := Req.zero.vals) (vs := ({ r with tag := t } : Req).vals) (ls' := ({ r with tag := t } : Req).vals) rfl rfl rfl (zae rfl) rfl rfl (Nat.le_refl 40) (by repeat constructor) ?_
  refine ga ?_
  refine H.Ab (.here _ _) ?_
  refine H.Ab (.here _ _) ?_
  refine H.Ab (.here _ _) ?_
  exact H.retD rfl rfl rfl (Rd.ofRow (.here _ _ _)) rfl (fun _ s => s.drop (.here _ _)) ⟨rfl, rfl, rfl⟩
 ·rw [if_neg ha]
  rw [decide_eq_false ha] at has
  refine Fn.enter Tryz.func78 rfl Tryz.ntmps78 rfl (L := [(0, _)]) ⟨rfl, trivial⟩ fun base => ?_
  refine gA ?_
  refine H.box (ls := r.vals) rfl rfl rfl rfl fun qb => ?_
  refine H.Av (ls := Req.zero.vals) rfl rfl rfl fun ob => ?_
  refine gA ?_
  refine H.Aj (ls := r.vals) rfl rfl rfl (Rd.ofRow (.there _ (.here _ _ _))) rfl rfl ?_
  refine H.Ad rfl rfl rfl (has _) ?_
  refine gR ?_
  refine H.Aj (ls := r.vals) rfl rfl rfl (Rd.ofRow (.there _ (.here _ _ _))) rfl rfl ?_
  refine H.Ap (ls := Req.zero.vals) (vs := r.vals) (ls' := r.vals) rfl rfl rfl (zae rfl) rfl rfl (Nat.le_refl 40) (.here _ _ _) ?_
  refine ga ?_
  refine H.Ab (.there _ (.here _ _)) ?_
  exact H.retD rfl rfl rfl (Rd.ofRow (.here _ _ _)) rfl (fun _ s => s.drop (.here _ _)) ⟨rfl, rfl, rfl⟩
end
theorem H.weakL {P : Program} {base : World} {n : Nat} {L : Env} {f g : Frag} {A : List HP} {K : Kont} (h : Le f g) (k : H P base n L f A K) : H P base n L g A K := .mk fun a w hf s => k.out a w hf (s.weak h)
theorem tab_mono {f g : Frag} (t : TabAt f) (h : Le f g) : TabAt g := IntsAt.mono h t
section
variable (f : Frag) (F : List HP)
end
section
variable (f : Frag) (F : List HP)
end
section
variable (f : Frag) (F : List HP)
end
section
variable (f : Frag) (F : List HP)
end
theorem ListAt.all {α : Type} {f : Frag} {p : Option Addr} {sz : Nat} {vals : α → List Value} {l : List α} (hv : ∀ x, (vals x).length = sz) (h1 : 0 < sz) (h : ListAt f p sz vals l) (h0 : 0 < l.length) :
  ∃ b off, p = some ⟨b, off, none⟩ ∧ ∀ (g : Frag) A i x, Le f g → l[i]? = some x → Rd g A b (off + i * sz) (vals x) := by
 obtain ⟨x0, hx0⟩ : ∃ x0, l[0]? = some x0 := ⟨_, List.getElem?_eq_getElem h0⟩
 obtain ⟨b, off, cs, T, fr, rfl, hfb, _⟩ := h 0 x0 hx0
 refine ⟨b, off, rfl, fun g A i x hle hx => ?_⟩
 obtain ⟨b', off', cs', T', fr', e, hfb', hcs'⟩ := h i x hx
 cases e
 exact Rd.imm (hle _ _ hfb') hcs'
section
variable (f : Frag) (F : List HP)
end
theorem Req.len (r : Req) : r.vals.length = 40 := rfl
theorem Reqs_one (l : List Req) : ∀ v ∈ l.flatMap Req.vals, one v = true := by
 intro v hv
 obtain ⟨r, _, hr⟩ := List.mem_flatMap.1 hv
 exact zae (l := r.vals) rfl v hr
def chV (c : Int × Int) : List Value := [.int .u64 c.1, .int .u64 c.2]
def addrV (b : Nat) : List Value := [.pointer (some ⟨b, 0, none⟩)]
def chRow (l : Lgs) (cs : Nat → Option Addr × Nat) : List Value := rngV l.n fun r => .slice (cs r).1 (l.ch r).length (cs r).2
section
variable (f : Frag) (F : List HP)
end
def viewsV (l : List (Int × Int)) : List Value := l.map fun p => .int .u64 p.1
abbrev keyU (k : Int) : Value := .int .u64 k
instance : KeyT Tryz.prog 42 keyU := keyT_int ⟨Tryz.underlying42⟩
def pastL (b eb ec mb : Nat) (s : PM) : List HP := [row b 177 [.int .u64 s.g, .slice (some ⟨eb, 0, none⟩) (s.init.length + 1) ec, .map (some mb)],
 slc (some ⟨eb, 0, none⟩) (s.init.length + 1) ec 42 1 (viewsV s.all), mp mb keyU (PM.kv s.all)]
def pastH (b : Nat) (s : PM) : HP := fun h => ∃ i : Nat × Nat × Nat, stars (pastL b i.1 i.2.1 i.2.2 s) h
theorem zaz {b eb ec mb : Nat} {s : PM} {F : List HP} : ∀ x, stars (row b 177 [.int .u64 s.g, .slice (some ⟨eb, 0, none⟩) (s.init.length + 1) ec, .map (some mb)] ::
 slc (some ⟨eb, 0, none⟩) (s.init.length + 1) ec 42 1 (viewsV s.all) :: mp mb keyU (PM.kv s.all) :: F) x → stars (pastH b s :: F) x :=
 fold_stars (B := [_, _, _]) fun x hx => ⟨(eb, ec, mb), hx⟩
theorem pastH_open {fid : FuncId} {args : List Value} {f : Frag} {R : Value → Frag → List HP → Prop} {b : Nat} {s : PM} {F : List HP}
  (k : ∀ eb ec mb, Fn Tryz.prog fid args f (row b 177 [.int .u64 s.g, .slice (some ⟨eb, 0, none⟩) (s.init.length + 1) ec, .map (some mb)] ::
   slc (some ⟨eb, 0, none⟩) (s.init.length + 1) ec 42 1 (viewsV s.all) :: mp mb keyU (PM.kv s.all) :: F) R) : Fn Tryz.prog fid args f (pastH b s :: F) R :=
 Fn.unfold (fun _ h => h) fun ⟨eb, ec, mb⟩ => k eb ec mb
theorem viewsV_last (s : PM) : (viewsV s.all)[s.init.length]? = some (.int .u64 s.lv) := by
 simp [viewsV, PM.all]
section
variable (f : Frag) (F : List HP) (b : Nat) (s : PM)
theorem last_fn (hn : s.init.length ≤ 1000000) : Fn Tryz.prog 161 [.pointer (some ⟨b, 0, none⟩)] f (pastH b s :: F) (Ret (.int .u64 s.lv) f (pastH b s :: F)) := by
 refine pastH_open fun eb ec mb => ?_
 refine Fn.enter Tryz.func161 rfl Tryz.ntmps161 rfl (L := [(0, _)]) ⟨rfl, trivial⟩ fun base => ?_
 refine gU ?_
 refine H.Bp (by kernel_rfl) (by decide +kernel) (by repeat (first | exact zab | refine zaa ?_ | refine zac ?_ | refine zad ?_)) ?_
 refine gT ?_
 refine HQ.index1 rfl rfl rfl rfl (by omega) rfl ?_
 refine HQ.Ag rfl rfl rfl (.of (Rd.ofSlc (by repeat constructor) (by omega)) (viewsV_last s)) rfl ?_
 refine gT ?_
 refine ga ?_
 exact H.Ac rfl rfl zaz ⟨rfl, rfl, rfl⟩
theorem new_fn : Fn Tryz.prog 51 [] f F (fun v f' A' => ∃ b, v = .pointer (some ⟨b, 0, none⟩) ∧ f' = f ∧ A' = pastH b PM.new :: F) := by
 refine Fn.enter Tryz.func51 rfl Tryz.ntmps51 rfl (L := []) trivial fun base => ?_
 refine gU ?_
 refine H.Bd rfl rfl rfl rfl (by decide) (by decide) rfl rfl fun eb => ?_
 refine H.makeMap keyU rfl rfl fun mb => ?_
 refine H.mapInsert rfl rfl rfl rfl (by repeat constructor) rfl ?_
 refine gZ ?_
 refine H.box rfl rfl rfl rfl fun b => ?_
 refine ga ?_
 refine H.Ac rfl rfl (A' := pastH b PM.new :: F) ?_ ⟨b, rfl, rfl, rfl⟩
 intro x hx
 refine zaz (eb := eb) (ec := 1) (mb := mb) x ?_
 refine keep_stars (fun y hy => ?_) x hx
 have h1 := stars_two hy
 obtain ⟨m1, m2, d, e, a, r⟩ := h1
 exact ⟨m1, m2, d, e, row_slc (by rfl) (by decide) a, r⟩
theorem open_fn (hn : s.init.length ≤ 1000000) (v : Int) : Fn Tryz.prog 164 [.pointer (some ⟨b, 0, none⟩), .int .u64 v] f (pastH b s :: F) (Ret (.bool (s.isOpen v)) f (pastH b s :: F)) := by
 refine pastH_open fun eb ec mb => ?_
 by_cases hv : v = s.g
 ·refine Fn.enter Tryz.func164 rfl Tryz.ntmps164 rfl (L := [(0, _), (1, _)]) ⟨rfl, rfl, trivial⟩ fun base => ?_
  refine gE ?_
  refine H.imp zaz ?_
  refine H.call rfl rfl rfl (last_fn f F b s hn) fun _ _ _ hR => ?_
  obtain ⟨rfl, rfl, rfl⟩ := hR
  refine gV ?_
  exact H.Ac rfl rfl (fun _ h => h) ⟨by simp [PM.isOpen, hv], rfl, rfl⟩
 ·refine Fn.enter Tryz.func164 rfl Tryz.ntmps164 rfl (L := [(0, _), (1, _)]) ⟨rfl, rfl, trivial⟩ fun base => ?_
  refine gZ ?_
  exact H.Ac rfl rfl zaz ⟨by simp [PM.isOpen, hv], rfl, rfl⟩
theorem greatest_nil : Fn Tryz.prog 66 [.pointer none] f F (Ret (.int .u64 0) f F) := by
 refine Fn.enter Tryz.func66 rfl Tryz.ntmps66 rfl (L := [(0, _)]) ⟨rfl, trivial⟩ fun base => ?_
 refine gW ?_
 exact H.Ac rfl rfl (fun _ h => h) ⟨rfl, rfl, rfl⟩
theorem voted_nil (v : Int) : Fn Tryz.prog 53 [.pointer none, .int .u64 v] f F (Ret (.tuple #[.int .i64 0, .bool false]) f F) := by
 refine Fn.enter Tryz.func53 rfl Tryz.ntmps53 rfl (L := [(0, _), (1, _)]) ⟨rfl, rfl, trivial⟩ fun base => ?_
 refine gW ?_
 exact H.ret2 rfl rfl rfl (fun _ h => h) ⟨rfl, rfl, rfl⟩
theorem voted_fn (v : Int) : Fn Tryz.prog 53 [.pointer (some ⟨b, 0, none⟩), .int .u64 v] f (pastH b s :: F) (Ret (.tuple #[.int .i64 ((PM.voted s.all v).getD 0), .bool (PM.voted s.all v).isSome]) f (pastH b s :: F)) := by
 refine pastH_open fun eb ec mb => ?_
 have hg : (getKV (PM.kv s.all) v).getD (.int .i64 0) = .int .i64 ((PM.voted s.all v).getD 0) := by
  rw [PM.getKV_kv]; cases PM.voted s.all v <;> rfl
 have hi : (getKV (PM.kv s.all) v).isSome = (PM.voted s.all v).isSome := by
  rw [PM.getKV_kv]; cases PM.voted s.all v <;> rfl
 refine Fn.enter Tryz.func53 rfl Tryz.ntmps53 rfl (L := [(0, _), (1, _)]) ⟨rfl, rfl, trivial⟩ fun base => ?_
 refine gS ?_
 refine H.lookup2 rfl rfl rfl (by repeat constructor) rfl hg hi rfl ?_
 refine gR ?_
 exact H.ret2 rfl rfl rfl zaz ⟨rfl, rfl, rfl⟩
end
section
variable (f : Frag) (F : List HP) (b : Nat) (s : PM)
theorem prepare_fn {B : Int} (hw : PM.WF s B) (hB : B ≤ 9000000000000000000) (hn : s.init.length ≤ 1000000) (v : Int) : Fn Tryz.prog 119 [.pointer (some ⟨b, 0, none⟩), .int .u64 v] f (pastH b s :: F) (Ret (.bool (s.isOpen v)) f (pastH b (s.prepare v) :: F)) := by
 cases ho : s.isOpen v with
 | false =>
  refine Fn.enter Tryz.func119 rfl Tryz.ntmps119 rfl (L := [(0, _), (1, _)]) ⟨rfl, rfl, trivial⟩ fun base => ?_
  refine gU ?_
  refine H.call rfl rfl rfl (open_fn f F b s hn v) fun _ _ _ hR => ?_
  obtain ⟨rfl, rfl, rfl⟩ := hR
  rw [ho]
  refine gR ?_
  exact H.Ac rfl rfl (fun _ h => h) ⟨rfl, rfl, by simp [PM.prepare, ho]⟩
 | true =>
  have hv : v = s.lv := by simp [PM.isOpen] at ho; exact ho.2
  have hl := hw.last
  have hgk : (getKV (PM.kv s.all) v).getD (.int .i64 0) = .int .i64 s.ln := by rw [PM.getKV_kv, hv, PM.voted_last hw]; rfl
  have hput : putKV (PM.kv s.all) v (.int .i64 (s.ln + 1)) = PM.kv ({ s with ln := s.ln + 1 } : PM).all := by rw [hv]; exact hw.kv_bump
  refine Fn.enter Tryz.func119 rfl Tryz.ntmps119 rfl (L := [(0, _), (1, _)]) ⟨rfl, rfl, trivial⟩ fun base => ?_
  refine gU ?_
  refine H.call rfl rfl rfl (open_fn f F b s hn v) fun _ _ _ hR => ?_
  obtain ⟨rfl, rfl, rfl⟩ := hR
  rw [ho]
  refine gN ?_
  refine H.unfold (fun _ h => h) fun ⟨eb, ec, mb⟩ => ?_
  show H _ _ _ _ _ (row _ _ _ :: slc _ _ _ _ _ _ :: mp _ _ _ :: F) _
  refine gM ?_
  refine H.Bs rfl rfl rfl (by repeat constructor) rfl hgk rfl ?_
  refine gK ?_
  refine H.mapUpdate rfl rfl rfl rfl (by repeat constructor) rfl ?_
  rw [hput]
  refine ga ?_
  refine H.Ac rfl rfl (A' := pastH b (s.prepare v) :: F) ?_ ⟨rfl, rfl, rfl⟩
  have hf := zaz (b := b) (eb := eb) (ec := ec) (mb := mb) (s := { s with ln := s.ln + 1 }) (F := F)
  rw [show s.prepare v = { s with ln := s.ln + 1 } by simp [PM.prepare, ho]]
  rw [show viewsV ({ s with ln := s.ln + 1 } : PM).all = viewsV s.all by simp [viewsV, PM.all]] at hf
  exact hf
theorem commit_fn {B : Int} (hw : PM.WF s B) (hB : B ≤ 9000000000000000000) (hn : s.init.length ≤ 1000000) (v k most : Int) (hk : 0 ≤ k ∧ k ≤ 18446744073709551615) (hm : -9223372036854775808 ≤ most ∧ most ≤ 9223372036854775807) :
  Fn Tryz.prog 120 [.pointer (some ⟨b, 0, none⟩), .int .u64 v, .int .u64 k, .int .i64 most] f (pastH b s :: F) (Ret (.bool (s.commitOk v k most)) f (pastH b (s.commit v k most) :: F)) := by
 have hl := hw.last
 cases ho : s.isOpen v with
 | false =>
  have e : s.commitOk v k most = false := by simp [PM.isOpen] at ho; simp [PM.commitOk]; omega
  refine Fn.enter Tryz.func120 rfl Tryz.ntmps120 rfl (L := [(0, _), (1, _), (2, _), (3, _)]) ⟨rfl, rfl, rfl, rfl, trivial⟩ fun base => ?_
  refine gU ?_
  refine H.call rfl rfl rfl (open_fn f F b s hn v) fun _ _ _ hR => ?_
  obtain ⟨rfl, rfl, rfl⟩ := hR
  rw [ho]
  refine gW ?_
  exact H.Ac rfl rfl (fun _ h => h) ⟨by rw [e], rfl, by simp [PM.commit, e]⟩
 | true =>
  have hv : v = s.lv := by simp [PM.isOpen] at ho; exact ho.2
  have hvg : v = s.g := by simp [PM.isOpen] at ho; exact ho.1
  have hgk : (getKV (PM.kv s.all) v).getD (.int .i64 0) = .int .i64 s.ln := by rw [PM.getKV_kv, hv, PM.voted_last hw]; rfl
  have hput : putKV (PM.kv s.all) v (.int .i64 (s.ln + 1)) = PM.kv ({ s with ln := s.ln + 1 } : PM).all := by rw [hv]; exact hw.kv_bump
  by_cases h1 : most < 0
  ·have e : s.commitOk v k most = false := by simp [PM.commitOk]; omega
   clear hvg hv
   refine Fn.enter Tryz.func120 rfl Tryz.ntmps120 rfl (L := [(0, _), (1, _), (2, _), (3, _)]) ⟨rfl, rfl, rfl, rfl, trivial⟩ fun base => ?_
   refine gU ?_
   refine H.call rfl rfl rfl (open_fn f F b s hn v) fun _ _ _ hR => ?_
   obtain ⟨rfl, rfl, rfl⟩ := hR
   rw [ho]
   refine gZ ?_
   exact H.Ac rfl rfl (fun _ h => h) ⟨by rw [e], rfl, by simp [PM.commit, e]⟩
  ·by_cases h2 : most < k
   ·have e : s.commitOk v k most = false := by simp [PM.commitOk]; omega
    clear hvg hv
    refine Fn.enter Tryz.func120 rfl Tryz.ntmps120 rfl (L := [(0, _), (1, _), (2, _), (3, _)]) ⟨rfl, rfl, rfl, rfl, trivial⟩ fun base => ?_
    refine gU ?_
    refine H.call rfl rfl rfl (open_fn f F b s hn v) fun _ _ _ hR => ?_
    obtain ⟨rfl, rfl, rfl⟩ := hR
    rw [ho]
    refine gZ ?_
    exact H.Ac rfl rfl (fun _ h => h) ⟨by rw [e], rfl, by simp [PM.commit, e]⟩
   ·have e : s.commitOk v k most = decide (k = s.ln + 1) := by rw [Bool.eq_iff_iff]; simp [PM.commitOk]; omega
    clear hvg hv
    refine Fn.enter Tryz.func120 rfl Tryz.ntmps120 rfl (L := [(0, _), (1, _), (2, _), (3, _)]) ⟨rfl, rfl, rfl, rfl, trivial⟩ fun base => ?_
    refine gU ?_
    refine H.call rfl rfl rfl (open_fn f F b s hn v) fun _ _ _ hR => ?_
    obtain ⟨rfl, rfl, rfl⟩ := hR
    rw [ho]
    refine gP ?_
    refine H.unfold (fun _ h => h) fun ⟨eb, ec, mb⟩ => ?_
    show H _ _ _ _ _ (row _ _ _ :: slc _ _ _ _ _ _ :: mp _ _ _ :: F) _
    refine gM ?_
    refine H.Bs rfl rfl rfl (by repeat constructor) rfl hgk rfl ?_
    refine gP ?_
    by_cases h3 : k = s.ln + 1
    ·refine gF ?_
     refine H.Bs rfl rfl rfl (by repeat constructor) rfl hgk rfl ?_
     refine gK ?_
     refine H.mapUpdate rfl rfl rfl rfl (by repeat constructor) rfl ?_
     rw [hput]
     refine ga ?_
     refine H.Ac rfl rfl (A' := pastH b (s.commit v k most) :: F) ?_ ⟨by rw [e]; simp [h3], rfl, rfl⟩
     have hf := zaz (b := b) (eb := eb) (ec := ec) (mb := mb) (s := { s with ln := s.ln + 1 }) (F := F)
     rw [show s.commit v k most = { s with ln := s.ln + 1 } by unfold PM.commit; rw [if_pos (by rw [e]; simp [h3])]]
     rw [show viewsV ({ s with ln := s.ln + 1 } : PM).all = viewsV s.all by simp [viewsV, PM.all]] at hf
     exact hf
    ·refine gG ?_
     exact H.Ac rfl rfl zaz ⟨by rw [e]; simp [h3], rfl, by simp [PM.commit, e, h3]⟩
end
section
variable (f : Frag) (F : List HP)
end
section
variable {P : Program} {base : World} {n : Nat} {L : Env} {f : Frag} {A : List HP} {q : Post} {l rest : List Oper} {ty : TypeId} {pos : String} {af : Array Edge} {gd : Option (Nat × Bool)}
end
theorem slc_emp (T : TypeId) (sz : Nat) : slc none 0 0 T sz [] = emp := by
 funext h
 refine propext ⟨fun ⟨_, _, h3⟩ => ?_, fun e => ⟨by simp, by omega, .inl ⟨rfl, rfl, e⟩⟩⟩
 rcases h3 with ⟨_, _, e⟩ | ⟨b, sp, e, _⟩
 ·exact e
 ·cases e
section
variable (f : Frag) (F : List HP)
end
section
variable (f : Frag) (F : List HP)
end
theorem Lgs.counts_3 {l : Lgs} {m : Msg} (h : m.body.kind = 3) : l.counts m = if (l.past (orgI m)).changeOk m.body.view = true then (true, { l with past := updF l.past (orgI m) ((l.past (orgI m)).change m.body.view), ch := updF l.ch (orgI m) (l.ch (orgI m) ++ [(m.body.view, m.number)]) }) else (false, l) := by
 unfold Lgs.counts; rw [if_pos h]
theorem Lgs.counts_4 {l : Lgs} {m : Msg} (h : m.body.kind = 4) : l.counts m = if decide (primZ l.n m.body.view = m.origin) = true then l.begins m else (false, l) := by
 unfold Lgs.counts; rw [if_neg (by rw [h]; decide), if_pos h]
theorem Lgs.counts_5n {l : Lgs} {m : Msg} (h : m.body.kind = 5) (hat : vwAt l.vs m.body.view = none) : l.counts m = (false, l) := by
 unfold Lgs.counts; rw [if_neg (by rw [h]; decide), if_neg (by rw [h]; decide), if_pos h]
 simp only [hat]
theorem Lgs.counts_5 {l : Lgs} {m : Msg} {i : Nat} {w : Vw} (h : m.body.kind = 5) (hat : vwAt l.vs m.body.view = some i) (hw : l.vs[i]? = some w) : l.counts m = if m.deps (primI l.n m.body.view) < w.num then (false, l) else ((l.past (orgI m)).enterOk m.body.view (w.s.length : Nat), l.doPast (orgI m) ((l.past (orgI m)).enter m.body.view (w.s.length : Nat))) := by
 unfold Lgs.counts; rw [if_neg (by rw [h]; decide), if_neg (by rw [h]; decide), if_pos h]
 simp only [hat, hw]
theorem Lgs.counts_1n {l : Lgs} {m : Msg} (h : m.body.kind = 1) (hat : vwAt l.vs m.body.view = none) : l.counts m = (false, l) := by
 unfold Lgs.counts; rw [if_neg (by rw [h]; decide), if_neg (by rw [h]; decide), if_neg (by rw [h]; decide), if_pos h]
 simp only [hat]
theorem Lgs.counts_1 {l : Lgs} {m : Msg} {i : Nat} {w : Vw} (h : m.body.kind = 1) (hat : vwAt l.vs m.body.view = some i) (hw : l.vs[i]? = some w) : l.counts m = if decide (primZ l.n m.body.view = m.origin) = false ∨ m.body.req.auth = false ∨ holdsB w.all m.body.req.client m.body.req.time = true ∨ (l.past (orgI m)).isOpen m.body.view = false then (false, l) else
  (true, { l with past := updF l.past (orgI m) ((l.past (orgI m)).prepare m.body.view), vs := l.vs.set i { w with p := w.p ++ [(m.number, m.body.req)] } }) := by
 unfold Lgs.counts; rw [if_neg (by rw [h]; decide), if_neg (by rw [h]; decide), if_neg (by rw [h]; decide), if_pos h]
 simp only [hat, hw]
theorem Lgs.counts_2n {l : Lgs} {m : Msg} (h : m.body.kind = 2) (hat : vwAt l.vs m.body.view = none) : l.counts m = (false, l) := by
 unfold Lgs.counts; rw [if_neg (by rw [h]; decide), if_neg (by rw [h]; decide), if_neg (by rw [h]; decide), if_neg (by rw [h]; decide), if_pos h]
 simp only [hat]
theorem Lgs.counts_2 {l : Lgs} {m : Msg} {i : Nat} {w : Vw} (h : m.body.kind = 2) (hat : vwAt l.vs m.body.view = some i) (hw : l.vs[i]? = some w) : l.counts m = if decide (primZ l.n m.body.view = m.origin) = true then (false, l) else ((l.past (orgI m)).commitOk m.body.view m.body.k (knowsV w (m.deps (primI l.n m.body.view)) : Nat), l.doPast (orgI m) ((l.past (orgI m)).commit m.body.view m.body.k (knowsV w (m.deps (primI l.n m.body.view)) : Nat))) := by
 unfold Lgs.counts; rw [if_neg (by rw [h]; decide), if_neg (by rw [h]; decide), if_neg (by rw [h]; decide), if_neg (by rw [h]; decide), if_pos h]
 simp only [hat, hw]
theorem Lgs.counts_x {l : Lgs} {m : Msg} (h3 : ¬ m.body.kind = 3) (h4 : ¬ m.body.kind = 4) (h5 : ¬ m.body.kind = 5) (h1 : ¬ m.body.kind = 1) (h2 : ¬ m.body.kind = 2) : l.counts m = (decide (m.body.kind = 6), l) := by
 unfold Lgs.counts; rw [if_neg h3, if_neg h4, if_neg h5, if_neg h1, if_neg h2]
section
variable (f : Frag) (F : List HP)
end
theorem quo_low : ∀ (q : List (Int × Int)) (w : Int), 0 ≤ w → quo w q = true → ∀ p ∈ q, 1 ≤ p.1
 | [], _, _, _, p, hp => by cases hp
 | y :: r, w, hw, h, p, hp => by
  unfold quo at h
  split at h
  ·cases h
  ·rename_i hno
   rcases List.mem_cons.1 hp with e | e
   ·rw [e]; omega
   ·exact quo_low r y.1 (by omega) h p e
theorem may_q1 {m : Msg} (h : m.may = true) : ∀ p ∈ m.body.q, 1 ≤ p.1 := by
 obtain ⟨h1, h2, h3⟩ := Bod.may_spec (Msg.may_body h)
 have hq := Bod.eqB_q h1
 by_cases h4 : m.body.kind.toNat = 4
 ·rw [h4] at h3
  have h3 : (decide (1 ≤ m.body.view) && (quo 0 m.body.q && decide (0 < m.body.q.length))) = true := h3
  simp only [Bool.and_eq_true] at h3
  exact quo_low _ 0 (Int.le_refl 0) h3.2.1
 ·rw [own_q h4] at hq
  rw [← hq]
  intro p hp
  cases hp
theorem may_MIn {n : Nat} {m : Msg} (h : m.may = true) (ho : m.origin ≤ (n : Int)) (hq : qIn n m = true) (hv : 0 ≤ m.body.view) : MIn n m :=
 ⟨⟨(Msg.may_outer h).1, ho⟩, fun p hp => ⟨may_q1 h p hp, by have := List.all_eq_true.1 hq p hp; exact of_decide_eq_true this⟩, hv⟩
theorem Lgs.begins_nk (l : Lgs) (m : Msg) : (l.begins m).2.n = l.n ∧ (l.begins m).2.known = l.known := by
 unfold Lgs.begins
 split
 ·exact ⟨rfl, rfl⟩
 ·split
  ·exact ⟨rfl, rfl⟩
  ·split
   ·exact ⟨rfl, rfl⟩
   ·exact ⟨rfl, rfl⟩
theorem Lgs.counts_nk (l : Lgs) (m : Msg) : (l.counts m).2.n = l.n ∧ (l.counts m).2.known = l.known := by
 by_cases h3 : m.body.kind = 3
 ·rw [Lgs.counts_3 h3]
  split <;> exact ⟨rfl, rfl⟩
 ·by_cases h4 : m.body.kind = 4
  ·rw [Lgs.counts_4 h4]
   split
   ·exact l.begins_nk m
   ·exact ⟨rfl, rfl⟩
  ·by_cases h5 : m.body.kind = 5
   ·cases hat : vwAt l.vs m.body.view with
    | none => rw [Lgs.counts_5n h5 hat]; exact ⟨rfl, rfl⟩
    | some i =>
     obtain ⟨⟨w, hw, _⟩, _⟩ := zak.1 hat
     rw [Lgs.counts_5 h5 hat hw]
     split <;> exact ⟨rfl, rfl⟩
   ·by_cases h1 : m.body.kind = 1
    ·cases hat : vwAt l.vs m.body.view with
     | none => rw [Lgs.counts_1n h1 hat]; exact ⟨rfl, rfl⟩
     | some i =>
      obtain ⟨⟨w, hw, _⟩, _⟩ := zak.1 hat
      rw [Lgs.counts_1 h1 hat hw]
      split <;> exact ⟨rfl, rfl⟩
    ·by_cases h2 : m.body.kind = 2
     ·cases hat : vwAt l.vs m.body.view with
      | none => rw [Lgs.counts_2n h2 hat]; exact ⟨rfl, rfl⟩
      | some i =>
       obtain ⟨⟨w, hw, _⟩, _⟩ := zak.1 hat
       rw [Lgs.counts_2 h2 hat hw]
       split <;> exact ⟨rfl, rfl⟩
     ·rw [Lgs.counts_x h3 h4 h5 h1 h2]; exact ⟨rfl, rfl⟩
section
variable (f : Frag) (F : List HP)
end
theorem LI.mono {l : Lgs} {T T' : Nat} (h : LI l T) (hT : T ≤ T') : LI l T' :=
 ⟨h.n3, fun i => by have := h.kn i; omega, fun r hr => (h.wf r hr).mono (by omega), fun r hr => Nat.le_trans (h.il r hr) hT, by have := h.vl; omega, fun r => Nat.le_trans (h.cl r) hT, fun w hw => Nat.le_trans (h.al w hw) hT, h.log, h.zero, h.rise, h.begun, h.gb⟩
theorem LI.new {n : Nat} (h3 : 3 ≤ n) (h11 : n ≤ 11) : LI (Lgs.new n) 0 :=
 ⟨⟨h3, h11⟩, fun _ => ⟨Int.le_refl 0, Int.le_refl 0⟩, fun _ _ => PM.new_wf, fun _ _ => Nat.le_refl 0, Nat.le_refl 1, fun _ => Nat.le_refl 0,
  fun w hw => by rw [List.mem_singleton.1 hw]; exact Nat.le_refl 0,
  fun _ _ p hp => by
   rw [List.mem_singleton.1 hp]
   exact ⟨_, List.mem_singleton.2 rfl, rfl, Int.le_refl 0⟩,
  ⟨_, List.mem_singleton.2 rfl, rfl⟩, List.pairwise_singleton _ _, fun w hw h0 => by rw [List.mem_singleton.1 hw] at h0; exact absurd rfl h0, fun _ _ => by show (0 : Int) < _; decide⟩
theorem LI.upd {l : Lgs} {T : Nat} (h : LI l T) {r : Nat} {p' : PM} {vs' : List Vw} {ch' : Nat → List (Int × Int)} (hwf : PM.WF p' ((T : Int) + 1)) (hil : p'.init.length ≤ T + 1) (hvl : vs'.length ≤ T + 2) (hal : ∀ w ∈ vs', w.all.length ≤ T + 1)
  (hup : ∀ w ∈ l.vs, ∃ w' ∈ vs', w'.v = w.v ∧ w.all.length ≤ w'.all.length) (hlog : ∀ p ∈ p'.all, ∃ w ∈ vs', w.v = p.1 ∧ p.2 ≤ (w.all.length : Int)) (hrise : (vs'.map Vw.v).Pairwise (· < ·))
  (hbeg : ∀ w' ∈ vs', w'.v ≠ 0 → (∃ w ∈ l.vs, w.v = w'.v) ∨ (primI l.n w'.v = r ∧ ∃ p ∈ p'.all, p.1 = w'.v)) (hgr : ∀ p ∈ (l.past r).all, ∃ p2 ∈ p'.all, p2.1 = p.1) (hg : p'.g < 1073741824) (hcl : ∀ r, (ch' r).length ≤ T + 1) :
  LI { l with past := updF l.past r p', vs := vs', ch := ch' } (T + 1) := by
 have hm := h.mono (Nat.le_succ T)
 refine ⟨h.n3, hm.kn, fun s hs => ?_, fun s hs => ?_, hvl, hcl, hal, fun s hs p hp => ?_, ?_, hrise, fun w hw h0 => ?_, fun s hs => ?_⟩
 ·show PM.WF (updF l.past r p' s) _
  by_cases e : s = r
  ·rw [e, zam]; exact hwf
  ·rw [updF_ne _ _ e]; exact hm.wf s hs
 ·show (updF l.past r p' s).init.length ≤ _
  by_cases e : s = r
  ·rw [e, zam]; exact hil
  ·rw [updF_ne _ _ e]; exact hm.il s hs
 ·have hp : p ∈ (updF l.past r p' s).all := hp
  by_cases e : s = r
  ·rw [e, zam] at hp; exact hlog p hp
  ·rw [updF_ne _ _ e] at hp
   obtain ⟨w, hw, h1, h2⟩ := h.log s hs p hp
   obtain ⟨w', hw', h3, h4⟩ := hup w hw
   exact ⟨w', hw', h3.trans h1, by omega⟩
 ·obtain ⟨w, hw, h1⟩ := h.zero
  obtain ⟨w', hw', h3, _⟩ := hup w hw
  exact ⟨w', hw', h3.trans h1⟩
 ·show ∃ p ∈ (updF l.past r p' (primI l.n w.v)).all, p.1 = w.v
  rcases hbeg w hw h0 with ⟨w0, hw0, e0⟩ | ⟨e0, p, hp, e1⟩
  ·obtain ⟨p, hp, e1⟩ := h.begun w0 hw0 (by rw [e0]; exact h0)
   rw [e0] at hp e1
   by_cases e : primI l.n w.v = r
   ·rw [e] at hp
    obtain ⟨p2, hp2, e2⟩ := hgr p hp
    rw [e, zam]
    exact ⟨p2, hp2, e2.trans e1⟩
   ·rw [updF_ne _ _ e]
    exact ⟨p, hp, e1⟩
  ·rw [e0, zam]
   exact ⟨p, hp, e1⟩
 ·show (updF l.past r p' s).g < _
  by_cases e : s = r
  ·rw [e, zam]; exact hg
  ·rw [updF_ne _ _ e]; exact h.gb s hs
theorem Vw.uniq {vs : List Vw} (h : (vs.map Vw.v).Pairwise (· < ·)) {a b : Vw} (ha : a ∈ vs) (hb : b ∈ vs) (e : a.v = b.v) : a = b := by
 obtain ⟨i, h1, h2⟩ := vwAt_mem h ha
 obtain ⟨j, h3, h4⟩ := vwAt_mem h hb
 rw [e, h3] at h1
 cases h1
 rw [h4] at h2
 cases h2
 rfl
theorem PM.WF.mem_le {s : PM} {B : Int} (h : PM.WF s B) {p : Int × Int} (hp : p ∈ s.all) : p.1 ≤ s.lv := by
 unfold PM.all at hp
 rcases List.mem_append.1 hp with h1 | h1
 ·exact Int.le_of_lt (h.below p h1)
 ·rw [List.mem_singleton.1 h1]
  exact Int.le_refl _
theorem PM.change_all (s : PM) (v : Int) : (s.change v).all = s.all ∧ (s.change v).init = s.init := by
 unfold PM.change
 split <;> exact ⟨rfl, rfl⟩
theorem PM.enter_all {s : PM} {v k : Int} (h : s.enterOk v k = true) : (s.enter v k).all = s.all ++ [(v, k)] ∧ (s.enter v k).init = s.all := by
 unfold PM.enter
 rw [if_pos h]
 exact ⟨rfl, rfl⟩
theorem PM.enter_g {s : PM} {v k : Int} (h : s.enterOk v k = true) : (s.enter v k).g < 1073741824 := by
 unfold PM.enter
 rw [if_pos h]
 unfold PM.enterOk at h
 exact (of_decide_eq_true h).2.2.1
theorem PM.change_gb {s : PM} {v : Int} (h : s.g < 1073741824) : (s.change v).g < 1073741824 := by
 unfold PM.change
 split
 ·rename_i hc
  unfold PM.changeOk at hc
  exact (of_decide_eq_true hc).2
 ·exact h
theorem PM.init_len (s : PM) : s.all.length = s.init.length + 1 := by unfold PM.all; rw [List.length_append]; rfl
theorem LI.step {l : Lgs} {T : Nat} (h : LI l T) : LI l (T + 1) := h.mono (Nat.le_succ T)
theorem LI.enter {l : Lgs} {T : Nat} (h : LI l T) {r : Nat} (hr : r < l.n) {w : Vw} (hw : w ∈ l.vs) {k : Int} (hk : k ≤ (w.all.length : Int)) : LI (l.doPast r ((l.past r).enter w.v k)) (T + 1) := by
 cases hok : (l.past r).enterOk w.v k with
 | false =>
  have e : (l.past r).enter w.v k = l.past r := by unfold PM.enter; rw [hok]; rfl
  unfold Lgs.doPast
  rw [e, updF_self]
  exact h.step
 | true =>
  obtain ⟨e1, e2⟩ := PM.enter_all hok
  have hwf := h.wf r hr
  have hal := h.al w hw
  have hil := h.il r hr
  have hlen := (l.past r).init_len
  refine h.upd (hwf.mono (B' := (T : Int) + 1) (by omega) |>.enter w.v k (by omega)) (by rw [e2]; omega) (by have := h.vl; omega) h.step.al (fun w hw => ⟨w, hw, rfl, Nat.le_refl _⟩) (fun p hp => ?_) h.rise (fun w' hw' _ => .inl ⟨w', hw', rfl⟩) (fun p hp => ⟨p, by rw [e1]; exact List.mem_append_left _ hp, rfl⟩) (PM.enter_g hok) (h.step.cl)
  rw [e1] at hp
  rcases List.mem_append.1 hp with h1 | h1
  ·exact h.log r hr p h1
  ·rw [List.mem_singleton.1 h1]
   exact ⟨w, hw, rfl, hk⟩
theorem LI.begins {l : Lgs} {T : Nat} (h : LI l T) {m : Msg} (hm : MIn l.n m) (hp : primZ l.n m.body.view = m.origin) : LI (l.begins m).2 (T + 1) := by
 unfold Lgs.begins
 split
 ·exact h.step
 ·split
  ·exact h.step
  ·split
   ·exact h.step
   ·rename_i _ _ hok
    obtain ⟨i, w, hv1, hv2, hlo, hhi⟩ := h.best hm
    have hok : (l.past (orgI m)).enterOk m.body.view (bestQ l.past m.body.view m.body.q (0, 0)).2 = true := by
     cases e : (l.past (orgI m)).enterOk m.body.view (bestQ l.past m.body.view m.body.q (0, 0)).2 with
     | true => rfl
     | false => exact absurd e hok
    generalize bestQ l.past m.body.view m.body.q (0, 0) = b at hv1 hlo hhi hok ⊢
    have hwm := List.mem_of_getElem? hv2
    rw [hv1]
    show LI { l with past := _, vs := insV ⟨m.body.view, m.number, ((l.vs[i]?.map Vw.all).getD []).take b.2.toNat, []⟩ l.vs } (T + 1)
    rw [hv2]
    show LI { l with past := _, vs := insV ⟨m.body.view, m.number, w.all.take b.2.toNat, []⟩ l.vs } (T + 1)
    obtain ⟨N, hN⟩ : ∃ N : Vw, N = ⟨m.body.view, m.number, w.all.take b.2.toNat, []⟩ := ⟨_, rfl⟩
    rw [← hN]
    have hNv : N.v = m.body.view := by rw [hN]
    have hNl : N.all.length = b.2.toNat := by
     rw [Vw.all_len, hN]
     show (w.all.take b.2.toNat).length + 0 = _
     rw [List.length_take]
     omega
    have hor := hm.o
    have hr : orgI m < l.n := by unfold orgI; omega
    have hpr : primI l.n m.body.view = orgI m := by unfold primZ at hp; unfold orgI; omega
    have hwf := h.wf _ hr
    have hal := h.al w hwm
    obtain ⟨e1, e2⟩ := PM.enter_all hok
    have hlast := hwf.last
    have hlv : (l.past (orgI m)).lv < m.body.view := by
     unfold PM.enterOk at hok
     have := of_decide_eq_true hok
     omega
    have hperm := insV_perm N l.vs
    have hnew : ∀ x ∈ l.vs, x.v ≠ N.v := fun x hx e => by
     rw [hNv] at e
     obtain ⟨p, hpm, e3⟩ := h.begun x hx (by omega)
     rw [e, hpr] at hpm
     have := hwf.mem_le hpm
     omega
    refine h.upd (hwf.mono (B' := (T : Int) + 1) (by omega) |>.enter m.body.view b.2 (by omega)) (by rw [e2, PM.init_len]; have := h.il _ hr; omega) (by rw [← hperm.length_eq]; have := h.vl; show l.vs.length + 1 ≤ _; omega)
     (fun x hx => ?_) (fun x hx => ⟨x, hperm.mem_iff.1 (List.mem_cons_of_mem _ hx), rfl, Nat.le_refl _⟩) (fun p hpm => ?_) ?_ (fun x hx h0 => ?_) (fun p hpm => ⟨p, by rw [e1]; exact List.mem_append_left _ hpm, rfl⟩) (PM.enter_g hok) h.step.cl
    ·rcases List.mem_cons.1 (hperm.mem_iff.2 hx) with e | e
     ·rw [e, hNl]; omega
     ·have := h.al x e; omega
    ·rw [e1] at hpm
     rcases List.mem_append.1 hpm with h1 | h1
     ·obtain ⟨x, hx, h2⟩ := h.log _ hr p h1
      exact ⟨x, hperm.mem_iff.1 (List.mem_cons_of_mem _ hx), h2⟩
     ·rw [List.mem_singleton.1 h1]
      exact ⟨N, hperm.mem_iff.1 (List.mem_cons_self), hNv, by rw [hNl]; show b.2 ≤ _; omega⟩
    ·have hrise := h.rise
     have hab := insKF_above N.v l.vs l.vs.length
     have hbe := insKF_below N.v l.vs l.vs.length
     have hle := insKF_le N.v l.vs l.vs.length
     unfold insV insK
     generalize insKF N.v l.vs l.vs.length = k at hab hbe hle
     rw [← List.take_append_drop k l.vs, List.map_append, List.pairwise_append] at hrise
     obtain ⟨hr1, hr2, hr3⟩ := hrise
     rw [List.map_append, List.map_cons, List.pairwise_append]
     refine ⟨hr1, List.pairwise_cons.2 ⟨fun a ha => ?_, hr2⟩, fun a ha c hc => ?_⟩
     ·obtain ⟨x, hx, rfl⟩ := List.mem_map.1 ha
      obtain ⟨j, hj⟩ := List.getElem?_of_mem hx
      rw [List.getElem?_drop] at hj
      exact hab (k + j) x (by omega) (List.getElem?_eq_some_iff.1 hj).1 hj
     ·obtain ⟨x, hx, rfl⟩ := List.mem_map.1 ha
      have hxN : x.v < N.v := by
       have hk0 : 0 < k := by
        rcases Nat.eq_zero_or_pos k with e | e
        ·rw [e] at hx; simp at hx
        ·exact e
       obtain ⟨y, hy⟩ : ∃ y, l.vs[k - 1]? = some y := ⟨_, List.getElem?_eq_getElem (by omega)⟩
       have h1 := hbe y hk0 hy
       have h2 := hnew y (List.mem_of_getElem? hy)
       obtain ⟨j, hj⟩ := List.getElem?_of_mem hx
       have hjk : j < k := by
        have := (List.getElem?_eq_some_iff.1 hj).1
        rw [List.length_take] at this
        omega
       rw [List.getElem?_take_of_lt hjk] at hj
       by_cases e : j = k - 1
       ·rw [e, hy] at hj; cases hj; omega
       ·have h3 := List.pairwise_iff_getElem.1 h.rise j (k - 1) (by rw [List.length_map]; omega) (by rw [List.length_map]; omega) (by omega)
        rw [List.getElem_map, List.getElem_map, (List.getElem?_eq_some_iff.1 hj).2, (List.getElem?_eq_some_iff.1 hy).2] at h3
        omega
      rcases List.mem_cons.1 hc with e | e
      ·rw [e]; exact hxN
      ·exact hr3 _ ha _ e
    ·rcases List.mem_cons.1 (hperm.mem_iff.2 hx) with e | e
     ·refine .inr ⟨by rw [e, hNv]; exact hpr, (m.body.view, b.2), by rw [e1]; simp, by rw [e, hNv]⟩
     ·exact .inl ⟨x, e, rfl⟩
theorem PM.bump_all (s : PM) : ({ s with ln := s.ln + 1 } : PM).all = s.init ++ [(s.lv, s.ln + 1)] := rfl
theorem LI.bump {l : Lgs} {T : Nat} (h : LI l T) {r : Nat} (hr : r < l.n) {vs' : List Vw} (hvl : vs'.length = l.vs.length) (hal : ∀ w ∈ vs', w.all.length ≤ T + 1)
  (hup : ∀ w ∈ l.vs, ∃ w' ∈ vs', w'.v = w.v ∧ w.all.length ≤ w'.all.length) (hlast : ∃ w ∈ vs', w.v = (l.past r).lv ∧ (l.past r).ln + 1 ≤ (w.all.length : Int)) (hv : vs'.map Vw.v = l.vs.map Vw.v) :
  LI { l with past := updF l.past r { l.past r with ln := (l.past r).ln + 1 }, vs := vs' } (T + 1) := by
 have hwf := h.wf r hr
 have hil := h.il r hr
 refine h.upd hwf.bump (by show (l.past r).init.length ≤ _; omega) (by rw [hvl]; have := h.vl; omega) hal hup (fun p hp => ?_) (by rw [hv]; exact h.rise) (fun w' hw' _ => .inl ?_) (fun p hp => ?_) (h.gb r hr) h.step.cl
 ·rw [PM.bump_all] at hp
  rcases List.mem_append.1 hp with h1 | h1
  ·obtain ⟨w, hw, h2, h3⟩ := h.log r hr p (List.mem_append_left _ h1)
   obtain ⟨w', hw', h4, h5⟩ := hup w hw
   exact ⟨w', hw', h4.trans h2, by omega⟩
  ·rw [List.mem_singleton.1 h1]
   exact hlast
 ·have : w'.v ∈ l.vs.map Vw.v := by rw [← hv]; exact List.mem_map_of_mem hw'
  obtain ⟨w, hw, e⟩ := List.mem_map.1 this
  exact ⟨w, hw, e⟩
 ·rw [PM.bump_all]
  rcases List.mem_append.1 (show p ∈ (l.past r).init ++ [((l.past r).lv, (l.past r).ln)] from hp) with h1 | h1
  ·exact ⟨p, List.mem_append_left _ h1, rfl⟩
  ·rw [List.mem_singleton.1 h1]
   exact ⟨((l.past r).lv, (l.past r).ln + 1), by simp, rfl⟩
theorem knowsV_le (w : Vw) (d : Int) : knowsV w d ≤ w.all.length := by
 rw [w.all_len]
 unfold knowsV
 have := List.length_filter_le (fun x : Int × Req => decide (x.1 ≤ d)) w.p
 omega
theorem LI.counts {l : Lgs} {T : Nat} (h : LI l T) {m : Msg} (hm : MIn l.n m) : LI (l.counts m).2 (T + 1) := by
 have hor := hm.o
 have hr : orgI m < l.n := by unfold orgI; omega
 have hwf := h.wf _ hr
 by_cases h3 : m.body.kind = 3
 ·rw [Lgs.counts_3 h3]
  split
  ·obtain ⟨e1, e2⟩ := (l.past (orgI m)).change_all m.body.view
   refine h.upd ((hwf.mono (B' := (T : Int) + 1) (by omega)).change m.body.view) (by rw [e2]; have := h.il _ hr; omega) (by have := h.vl; omega) h.step.al (fun w hw => ⟨w, hw, rfl, Nat.le_refl _⟩) (fun p hp => h.log _ hr p (by rw [e1] at hp; exact hp)) h.rise (fun w' hw' _ => .inl ⟨w', hw', rfl⟩) (fun p hp => ⟨p, by rw [e1]; exact hp, rfl⟩) (PM.change_gb (h.gb _ hr)) fun r => ?_
   have := h.cl r
   by_cases e : r = orgI m
   ·rw [e, zam, List.length_append]
    rw [e] at this
    show _ + 1 ≤ _
    omega
   ·rw [updF_ne _ _ e]; omega
  ·exact h.step
 ·by_cases h4 : m.body.kind = 4
  ·rw [Lgs.counts_4 h4]
   split
   ·rename_i hp
    exact h.begins hm (of_decide_eq_true hp)
   ·exact h.step
  ·by_cases h5 : m.body.kind = 5
   ·cases hat : vwAt l.vs m.body.view with
    | none => rw [Lgs.counts_5n h5 hat]; exact h.step
    | some i =>
     obtain ⟨⟨w, hw, hwv⟩, _⟩ := zak.1 hat
     rw [Lgs.counts_5 h5 hat hw]
     split
     ·exact h.step
     ·have := h.enter hr (List.mem_of_getElem? hw) (k := (w.s.length : Nat)) (by rw [w.all_len]; omega)
      rw [hwv] at this
      exact this
   ·by_cases h1 : m.body.kind = 1
    ·cases hat : vwAt l.vs m.body.view with
     | none => rw [Lgs.counts_1n h1 hat]; exact h.step
     | some i =>
      obtain ⟨⟨w, hw, hwv⟩, _⟩ := zak.1 hat
      have hwm := List.mem_of_getElem? hw
      have hi := (List.getElem?_eq_some_iff.1 hw).1
      rw [Lgs.counts_1 h1 hat hw]
      split
      ·exact h.step
      ·rename_i hno
       have hop : (l.past (orgI m)).isOpen m.body.view = true := by
        cases e : (l.past (orgI m)).isOpen m.body.view with
        | true => rfl
        | false => exact absurd (.inr (.inr (.inr e))) hno
       have hlv : m.body.view = (l.past (orgI m)).lv := by
        unfold PM.isOpen at hop
        exact (of_decide_eq_true hop).2
       have hpr : (l.past (orgI m)).prepare m.body.view = { l.past (orgI m) with ln := (l.past (orgI m)).ln + 1 } := by unfold PM.prepare; rw [if_pos hop]
       obtain ⟨w2, hw2⟩ : ∃ w2 : Vw, w2 = { w with p := w.p ++ [(m.number, m.body.req)] } := ⟨_, rfl⟩
       have h2v : w2.v = w.v := by rw [hw2]
       have h2l : w2.all.length = w.all.length + 1 := by
        rw [w2.all_len, w.all_len, hw2]
        show _ + (w.p ++ _).length = _
        rw [List.length_append]
        show w.s.length + (w.p.length + 1) = _
        omega
       rw [← hw2, hpr]
       have hset : (l.vs.set i w2)[i]? = some w2 := by rw [List.getElem?_set_self hi]
       refine h.bump hr List.length_set (fun x hx => ?_) (fun x hx => ?_) ⟨w2, List.mem_of_getElem? hset, by rw [h2v, hwv, hlv], ?_⟩ ?_
       ·rcases List.mem_or_eq_of_mem_set hx with e | e
        ·have := h.al x e; omega
        ·have := h.al w hwm; rw [e, h2l]; omega
       ·by_cases e : x = w
        ·exact ⟨w2, List.mem_of_getElem? hset, by rw [h2v, e], by rw [e, h2l]; omega⟩
        ·obtain ⟨j, hj⟩ := List.getElem?_of_mem hx
         refine ⟨x, ?_, rfl, Nat.le_refl _⟩
         refine List.mem_of_getElem? (i := j) ?_
         rw [List.getElem?_set_ne (fun e2 => e (by rw [← e2, hw] at hj; cases hj; rfl))]
         exact hj
       ·obtain ⟨x, hx, e1, e2⟩ := h.log _ hr ((l.past (orgI m)).lv, (l.past (orgI m)).ln) (by unfold PM.all; simp)
        have e1 : x.v = (l.past (orgI m)).lv := e1
        have e3 : x = w := Vw.uniq h.rise hx hwm (by rw [e1, hwv, hlv])
        rw [e3] at e2
        have e2 : (l.past (orgI m)).ln ≤ _ := e2
        rw [h2l]
        omega
       ·rw [List.map_set, h2v]
        have e : (l.vs.map Vw.v)[i]? = some w.v := by rw [List.getElem?_map, hw]; rfl
        exact set_self e
    ·by_cases h2 : m.body.kind = 2
     ·cases hat : vwAt l.vs m.body.view with
      | none => rw [Lgs.counts_2n h2 hat]; exact h.step
      | some i =>
       obtain ⟨⟨w, hw, hwv⟩, _⟩ := zak.1 hat
       have hwm := List.mem_of_getElem? hw
       rw [Lgs.counts_2 h2 hat hw]
       split
       ·exact h.step
       ·show LI (l.doPast _ _) _
        have hkn := knowsV_le w (m.deps (primI l.n m.body.view))
        generalize knowsV w (m.deps (primI l.n m.body.view)) = most at hkn ⊢
        unfold PM.commit Lgs.doPast
        split
        ·rename_i hok
         unfold PM.commitOk at hok
         have hok := of_decide_eq_true hok
         exact h.bump hr rfl h.step.al (fun w hw => ⟨w, hw, rfl, Nat.le_refl _⟩) ⟨w, hwm, by rw [hwv]; exact hok.1.2, by omega⟩ rfl
        ·rw [updF_self]
         exact h.step
     ·rw [Lgs.counts_x h3 h4 h5 h1 h2]; exact h.step
theorem LI.take {l : Lgs} {T : Nat} (h : LI l T) {m : Msg} (hv : 0 ≤ m.body.view) : LI (l.take m).2 (T + 1) := by
 unfold Lgs.take
 split
 ·exact h.step
 ·rename_i hno
  split
  ·exact h.step
  ·have hm : MIn l.n m := may_MIn (by
    cases e : m.may with
    | true => rfl
    | false => exact absurd (.inl e) hno) (by
    by_cases e : (l.n : Int) < m.origin
    ·exact absurd (.inr (.inl e)) hno
    ·omega) (by
    cases e : qIn l.n m with
    | true => rfl
    | false => exact absurd (.inr (.inr e)) hno) hv
   have hc := h.counts hm
   have hk := (l.counts_nk m).2
   refine ⟨hc.n3, fun i => ?_, hc.wf, hc.il, hc.vl, hc.cl, hc.al, hc.log, hc.zero, hc.rise, hc.begun, hc.gb⟩
   show 0 ≤ updF (l.counts m).2.known (orgI m) _ i ∧ updF (l.counts m).2.known (orgI m) _ i ≤ _
   rw [hk]
   have := h.kn i
   by_cases e : i = orgI m
   ·rw [e, zam]; rw [e] at this; omega
   ·rw [updF_ne _ _ e]; omega
def byteS (b : UInt8) : ByteArray := ⟨#[b]⟩
theorem snocInd {α : Type} {p : List α → Prop} (h0 : p []) (h1 : ∀ l x, p l → p (l ++ [x])) (l : List α) : p l := by
 have : ∀ (n : Nat) (l : List α), l.length = n → p l := by
  intro n
  induction n with
  | zero => intro l h; rw [List.eq_nil_of_length_eq_zero h]; exact h0
  | succ n ih =>
   intro l h
   have hne : l ≠ [] := fun e => by rw [e] at h; cases h
   rw [← List.dropLast_concat_getLast hne]
   exact h1 _ _ (ih _ (by rw [List.length_dropLast, h]; rfl))
 exact this _ l rfl
def encA (k : Int × Int) : Value := .agg ([.int .i64 k.1, .int .u64 k.2] : List Value).toArray
instance keyAs : KeyT Tryz.prog 154 encA := keyT_agg (cellsK := fun k : Int × Int => [.int .i64 k.1, .int .u64 k.2]) (D := 4) (by kernel_rfl) (fun k => by kernel_rfl) (by decide) (fun a b => by
  obtain ⟨a1, a2⟩ := a
  obtain ⟨b1, b2⟩ := b
  show (a1 == b1 && (a2 == b2 && true)) = _
  by_cases h1 : a1 = b1 <;> by_cases h2 : a2 = b2 <;> simp [h1, h2]) (fun k => rfl)
def heldKV (l : List Req) : List ((Int × Int) × Value) := l.foldl (fun m r => putKV m (r.client, r.time) (.bool true)) []
theorem heldKV_snoc (l : List Req) (r : Req) : heldKV (l ++ [r]) = putKV (heldKV l) (r.client, r.time) (.bool true) := by
 unfold heldKV; rw [List.foldl_append]; rfl
theorem held_get (l : List Req) (c t : Int) : getKV (heldKV l) (c, t) = if holdsB l c t = true then some (.bool true) else none := by
 refine snocInd (p := fun l => getKV (heldKV l) (c, t) = if holdsB l c t = true then some (.bool true) else none) rfl (fun l r ih => ?_) l
 ·show getKV (heldKV (l ++ [r])) (c, t) = if holdsB (l ++ [r]) c t = true then some (.bool true) else none
  rw [heldKV_snoc]
  have e : holdsB (l ++ [r]) c t = (holdsB l c t || (decide (r.client = c) && decide (r.time = t))) := by
   unfold holdsB; rw [List.any_append]; simp
  rw [e]
  by_cases h : r.client = c ∧ r.time = t
  ·rw [← h.1, ← h.2, getKV_put_same, if_pos (by simp)]
  ·rw [getKV_put_ne _ _ _ _ (fun h2 => h ⟨(congrArg Prod.fst h2).symm, (congrArg Prod.snd h2).symm⟩), ih]
   have : (decide (r.client = c) && decide (r.time = t)) = false := by
    rw [Bool.and_eq_false_iff, decide_eq_false_iff_not, decide_eq_false_iff_not]
    by_cases h1 : r.client = c
    ·exact .inr fun h2 => h ⟨h1, h2⟩
    ·exact .inl h1
   rw [this, Bool.or_false]
structure PV where
 w : Vw
 b : Nat
 lp : Option Addr
 lc : Nat
 np : Option Addr
 nc : Nat
 hb : Nat
def PV.cells (x : PV) : List Value := [.int .u64 x.w.num, .int .i64 (x.w.s.length : Nat), .slice x.lp x.w.all.length x.lc, .slice x.np x.w.p.length x.nc, .map (some x.hb)]
def numV (y : Int × Req) : List Value := [.int .u64 y.1]
def PV.parts (x : PV) : List HP := [row x.b 122 x.cells, slc x.lp x.w.all.length x.lc 49 40 (x.w.all.flatMap Req.vals), slc x.np x.w.p.length x.nc 42 1 (x.w.p.flatMap numV), mp x.hb encA (heldKV x.w.all)]
def PV.own (x : PV) : HP := fun h => stars x.parts h
def PV.ent (x : PV) : Int × Value := (x.w.v, .pointer (some ⟨x.b, 0, none⟩))
structure PPt where
 V : List PV
 vb : Nat
 pp : Option Addr
 pc : Nat
 cp : Option Addr
 cc : Nat
 pb : Nat → Nat
 cs : Nat → Option Addr × Nat
def plC (n : Nat) (kn : Nat → Int) (vb : Nat) (pp : Option Addr) (pc : Nat) (cp : Option Addr) (cc : Nat) : List Value := [.int .i64 (n : Int)] ++ v11 kn ++ [.map (some vb), .slice pp n pc, .slice cp n cc]
theorem plC_kn {f : Frag} {A A' : List HP} {b n : Nat} {T : TypeId} {kn : Nat → Int} {vb : Nat} {pp : Option Addr} {pc : Nat} {cp : Option Addr} {cc : Nat}
  (h : At A (row b T (plC n kn vb pp pc cp cc)) A' (row b T (plC n kn vb pp pc cp cc))) : Rd f A b (0 + 1) (v11 kn) :=
 (Rd.ofRow (f := f) h).sub rfl
structure plφ (f : Frag) (l : Lgs) (i : PPt) : Prop where
 vs : (i.V.map PV.w).Perm l.vs
 p : ListAt f i.pp 1 addrV ((List.range l.n).map i.pb)
def pcFam (l : Lgs) (cs : Nat → Option Addr × Nat) (r : Nat) : HP := slc (cs r).1 (l.ch r).length (cs r).2 160 2 ((l.ch r).flatMap chV)
def plB (lb : Nat) (l : Lgs) (i : PPt) : List HP := [row lb 127 (plC l.n l.known i.vb i.pp i.pc i.cp i.cc), mp i.vb keyU (i.V.map PV.ent), lst (i.V.map PV.own),
 fam (fun r => pastH (i.pb r) (l.past r)) l.n, slc i.cp l.n i.cc 158 1 (chRow l i.cs), fam (pcFam l i.cs) l.n]
def plogH (f : Frag) (lb : Nat) (l : Lgs) : HP := pack (plφ f l) (plB lb l)
theorem plφ.mono {f g : Frag} (h : Le f g) {l : Lgs} {i : PPt} (hl : plφ f l i) : plφ g l i := ⟨hl.vs, hl.p.mono h⟩
theorem zai {f : Frag} {F : List HP} {lb : Nat} {l : Lgs} (i : PPt) (h : plφ f l i) : ∀ x, stars (plB lb l i ++ F) x → stars (plogH f lb l :: F) x := fun x hx =>
 pack_fold (φ := plφ f l) (B := plB lb l) i h x hx
theorem plφ.past {f : Frag} {l : Lgs} {i : PPt} (h : plφ f l i) (hn : 0 < l.n) : ∃ b off, i.pp = some ⟨b, off, none⟩ ∧ ∀ {e : Frag} {A : List HP} {r : Nat}, Le f e → r < l.n → Rd1 e A b (off + r) (.pointer (some ⟨i.pb r, 0, none⟩)) := by
 obtain ⟨b, off, h1, rd⟩ := ListAt.all (vals := addrV) (sz := 1) (fun _ => rfl) (by decide) h.p (by rw [List.length_map, List.length_range]; exact hn)
 refine ⟨b, off, h1, fun {e A r} he hr => ?_⟩
 have h2 := rd e A r (i.pb r) he (by rw [List.getElem?_map, List.getElem?_range hr]; rfl)
 have h3 := Rd1.of (i := 0) h2 (v := .pointer (some ⟨i.pb r, 0, none⟩)) rfl
 rw [Nat.mul_one, Nat.add_zero] at h3
 exact h3
theorem ent_get : ∀ (V : List PV) (v : Int), getKV (V.map PV.ent) v = ((V.find? fun x => decide (x.w.v = v)).map fun x => Value.pointer (some ⟨x.b, 0, none⟩))
 | [], _ => rfl
 | x :: V, v => by
  show (if v = x.w.v then some _ else getKV (V.map PV.ent) v) = _
  rw [List.find?_cons, ent_get V v]
  by_cases h : v = x.w.v
  ·rw [if_pos h, decide_eq_true h.symm]; rfl
  ·rw [if_neg h, decide_eq_false (fun e => h e.symm)]
theorem view_none {vs : List Vw} {V : List PV} (h : (V.map PV.w).Perm vs) {v : Int} (hv : vwAt vs v = none) : getKV (V.map PV.ent) v = none := by
 rw [ent_get, List.find?_eq_none.2]
 ·rfl
 ·intro x hx
  have := vwAt_none.1 hv x.w (h.mem_iff.1 (List.mem_map.2 ⟨x, hx, rfl⟩))
  simpa using this
theorem view_some {vs : List Vw} {V : List PV} (h : (V.map PV.w).Perm vs) {v : Int} {i : Nat} {w : Vw} (hr : (vs.map Vw.v).Pairwise (· < ·)) (hv : vwAt vs v = some i) (hw : vs[i]? = some w) : ∃ (j : Nat) (x : PV), V[j]? = some x ∧ x.w = w ∧ getKV (V.map PV.ent) v = some (.pointer (some ⟨x.b, 0, none⟩)) := by
 obtain ⟨⟨w', hw', e⟩, _⟩ := zak.1 hv
 rw [hw] at hw'
 cases hw'
 have hwm := h.mem_iff.2 (List.mem_of_getElem? hw)
 obtain ⟨y, hy, hyw⟩ := List.mem_map.1 hwm
 cases hf : V.find? fun x => decide (x.w.v = v) with
 | none =>
  have := List.find?_eq_none.1 hf y hy
  rw [hyw, e] at this
  exact absurd (decide_eq_true rfl) this
 | some x =>
  have h1 := List.find?_some hf
  have h1 : x.w.v = v := of_decide_eq_true h1
  have h2 := List.mem_of_find?_eq_some hf
  obtain ⟨j, hj⟩ := List.getElem?_of_mem h2
  refine ⟨j, x, hj, ?_, by rw [ent_get, hf]; rfl⟩
  exact Vw.uniq hr (h.mem_iff.1 (List.mem_map.2 ⟨x, h2, rfl⟩)) (List.mem_of_getElem? hw) (by rw [h1, e])
theorem perm_set {α : Type} {A B : List α} {i j : Nat} {x y : α} (h : A.Perm B) (hi : A[i]? = some x) (hj : B[j]? = some x) : (A.set i y).Perm (B.set j y) := by
 have hA := List.getElem?_eq_some_iff.1 hi
 have hB := List.getElem?_eq_some_iff.1 hj
 have a1 := List.take_append_drop i A
 have e1 : A = A.take i ++ x :: A.drop (i + 1) := by
  conv => lhs; rw [← List.take_append_drop i A]
  rw [List.drop_eq_getElem_cons hA.1, hA.2]
 have e2 : B = B.take j ++ x :: B.drop (j + 1) := by
  conv => lhs; rw [← List.take_append_drop j B]
  rw [List.drop_eq_getElem_cons hB.1, hB.2]
 have s1 : A.set i y = A.take i ++ y :: A.drop (i + 1) := List.set_eq_take_append_cons_drop .. |>.trans (by rw [if_pos hA.1])
 have s2 : B.set j y = B.take j ++ y :: B.drop (j + 1) := List.set_eq_take_append_cons_drop .. |>.trans (by rw [if_pos hB.1])
 rw [e1, e2] at h
 have h2 : (x :: (A.take i ++ A.drop (i + 1))).Perm (x :: (B.take j ++ B.drop (j + 1))) := List.perm_middle.symm.trans (h.trans List.perm_middle)
 have h3 := (List.perm_cons x).1 h2
 rw [s1, s2]
 exact List.perm_middle.trans (((List.perm_cons y).2 h3).trans List.perm_middle.symm)
theorem fam_more (g : Nat → HP) (k : Nat) (A : List HP) : stars (g k :: fam g k :: A) = stars (fam g (k + 1) :: A) := by
 show star (g k) (star (stars (rngH g k)) (stars A)) = star (star (g k) (stars (rngH g k))) (stars A)
 rw [zat]
theorem fam_congr {g g' : Nat → HP} {k : Nat} (h : ∀ j, j < k → g j = g' j) : fam g k = fam g' k := by
 unfold fam
 rw [rngH_congr k h]
theorem fam_zero (g : Nat → HP) (A : List HP) : stars (fam g 0 :: A) = stars A := emp_star _
theorem fam_emp {g : Nat → HP} (A : List HP) : ∀ {k : Nat}, (∀ j, j < k → g j = emp) → stars (fam g k :: A) = stars A
 | 0, _ => emp_star _
 | k + 1, h => by
  rw [← fam_more, h k (by omega)]
  show star emp (stars (fam g k :: A)) = _
  rw [emp_star]
  exact fam_emp A fun j hj => h j (by omega)
theorem zeros_rng (n : Nat) : zeros [Value.slice none 0 0] n = chRow (Lgs.new n) fun _ => (none, 0) := by
 rw [zeros_one]
 unfold chRow rngV
 apply List.ext_getElem?
 intro i
 rw [List.getElem?_map]
 show _ = (List.range n)[i]?.map _
 by_cases h : i < n
 ·rw [List.getElem?_replicate, if_pos h, List.getElem?_range h]
  rfl
 ·rw [List.getElem?_eq_none (by rw [List.length_replicate]; omega), List.getElem?_eq_none (by rw [List.length_range]; omega)]
  rfl
theorem pbs_snoc (pb : Nat → Nat) (i b : Nat) : ((List.range (i + 1)).map (updF pb i b)).flatMap addrV = ((List.range i).map pb).flatMap addrV ++ addrV b := by
 rw [List.range_succ, List.map_append, List.flatMap_append]
 congr 1
 ·congr 1
  exact List.map_congr_left fun j hj => updF_ne _ _ (by have := List.mem_range.1 hj; omega)
 ·simp [zam]
section
variable (f : Frag) (F : List HP)
end
theorem own_fold {x : PV} {A : List HP} : ∀ h, stars (x.parts ++ A) h → stars (x.own :: A) h := fold_stars fun _ h => h
theorem H.ownOpen {P : Program} {base : World} {n : Nat} {L : Env} {f : Frag} {A : List HP} {K : Kont} {x : PV} (k : H P base n L f (x.parts ++ A) K) : H P base n L f (x.own :: A) K :=
 H.unfold (p := x.own) (B := fun _ : Unit => x.parts) (fun _ hh => ⟨(), hh⟩) fun _ => k
theorem lst_one (x : HP) (A : List HP) : stars (x :: A) = stars (lst [x] :: A) := by
 rw [← lst_moreA A (xs := []) (ys := [x]) (List.Perm.refl _)]
 show star x (stars A) = star x (star emp (stars A))
 rw [emp_star]
def pnC (n vb : Nat) (pp : Option Addr) (pl pc : Nat) (cp : Option Addr) : List Value := [.int .i64 (n : Int)] ++ (v11 fun _ => 0) ++ [.map (some vb), .slice pp pl pc, .slice cp n n]
def pz (wb hb : Nat) : PV := ⟨⟨0, 0, [], []⟩, wb, none, 0, none, 0, hb⟩
def vwC (num : Int) (s : Nat) (lp : Option Addr) (m lc : Nat) (np : Option Addr) (k nc hb : Nat) : List Value := [.int .u64 num, .int .i64 (s : Nat), .slice lp m lc, .slice np k nc, .map (some hb)]
def PlNewP (f : Frag) (F : List HP) (n : Nat) : Value → Frag → List HP → Prop := fun v f' A' => ∃ (g : Frag) (lb : Nat), Dj f g ∧ v = .tuple #[.pointer (some ⟨lb, 0, none⟩), .int .i64 0] ∧ f' = un f g ∧ A' = plogH f' lb (Lgs.new n) :: F
section
variable (f : Frag) (F : List HP)
theorem plfew_fn (z : Int) : Fn Tryz.prog 50 [.int .i64 z] f F (Ret (.bool (decide (fewZ z))) f F) := by
 by_cases h1 : 3 ≤ z
 ·by_cases h2 : z ≤ 11
  ·skip
   refine Fn.enter Tryz.func50 rfl Tryz.ntmps50 rfl (L := [(0, _)]) ⟨rfl, trivial⟩ fun base => ?_
   repeat (first | (refine H.rem (z := z.tmod 2) rfl rfl rfl (by decide) rfl rfl ?_) | ((first | apply H.Ah | apply H.Ak); (iterate 3 exact rfl)) | (first | apply H.seq | apply H.Al | apply H.nil | apply H.Am) | ((apply H.cmp); (iterate 5 exact rfl)) | (apply H.Be; (iterate 4 exact rfl)) | (apply H.ret) | (apply H.Bk; (iterate 3 exact rfl); (assumption)))
   refine H.Ac rfl rfl (fun _ h => h) ⟨?_, rfl, rfl⟩
   simp [fewZ, *]
  ·skip
   refine Fn.enter Tryz.func50 rfl Tryz.ntmps50 rfl (L := [(0, _)]) ⟨rfl, trivial⟩ fun base => ?_
   refine gZ ?_
   refine H.Ac rfl rfl (fun _ h => h) ⟨?_, rfl, rfl⟩
   simp [fewZ, *]
 ·skip
  refine Fn.enter Tryz.func50 rfl Tryz.ntmps50 rfl (L := [(0, _)]) ⟨rfl, trivial⟩ fun base => ?_
  refine gY ?_
  refine H.Ac rfl rfl (fun _ h => h) ⟨?_, rfl, rfl⟩
  simp [fewZ, *]
theorem plnew_no {z : Int} (h : ¬ fewZ z) : Fn Tryz.prog 27 [.int .i64 z] f F (Ret (.tuple #[.pointer none, .int .i64 1]) f F) := by
 have hf := fun G => plfew_fn f G z
 rw [decide_eq_false h] at hf
 refine Fn.enter Tryz.func27 rfl Tryz.ntmps27 rfl (L := [(0, _)]) ⟨rfl, trivial⟩ fun base => ?_
 refine gU ?_
 refine H.Ad rfl rfl rfl (hf _) ?_
 refine H.not (b := false) (c := true) rfl rfl rfl rfl ?_
 refine gD ?_
 exact H.ret2 rfl rfl rfl (fun _ h => h) ⟨rfl, rfl, rfl⟩
set_option maxHeartbeats 1600000 in
theorem plnew_fn {n : Nat} (h : fewZ (n : Int)) : Fn Tryz.prog 27 [.int .i64 (n : Int)] f F (PlNewP f F n) := by
 have hf := fun G => plfew_fn f G (n : Int)
 rw [decide_eq_true h] at hf
 have hn : n ≤ 11 := by have := h.2.1; omega
 refine Fn.enter Tryz.func27 rfl Tryz.ntmps27 rfl (L := [(0, _)]) ⟨rfl, trivial⟩ fun base => ?_
 refine gU ?_
 refine H.Ad rfl rfl rfl (hf _) ?_
 refine H.not (b := true) (c := false) rfl rfl rfl rfl ?_
 refine gR ?_
 refine H.makeMap keyU rfl rfl fun vb => ?_
 refine H.makeMap encA rfl rfl fun hb => ?_
 refine H.Bc (t := 122) (out := vwC 0 0 none 0 0 none 0 0 hb) rfl rfl rfl (by kernel_rfl) rfl ?_
 refine H.box (ls := vwC 0 0 none 0 0 none 0 0 hb) rfl rfl rfl rfl fun wb => ?_
 refine H.mapInsert (enc := keyU) (k := 0) (m := []) rfl rfl rfl rfl (by repeat constructor) rfl ?_
 refine gU ?_
 refine H.makeS (m := n) (zs := [.slice none 0 0]) rfl rfl rfl rfl rfl rfl rfl (by decide) (by omega) (by omega) rfl fun cb => ?_
 refine H.Bc (t := 127) (out := pnC n vb none 0 0 (some ⟨cb, 0, none⟩)) rfl rfl rfl (by kernel_rfl) rfl ?_
 refine H.box (ls := pnC n vb none 0 0 (some ⟨cb, 0, none⟩)) rfl rfl rfl rfl fun lb => ?_
 refine ga ?_
 refine H.slc0 128 1 ?_
 refine H.conv (fam_zero (fun r => pastH (0 * r) PM.new) _).symm ?_
 refine H.Aa (x := slc none 0 0 _ _ _) (by repeat constructor) ?_
 refine H.Aa (x := row lb _ _) (by repeat constructor) ?_
 refine H.Ax (ι := Nat × Option Addr × Nat × (Nat → Nat)) (fun s => [(19, .int .i64 (s.1 : Int)), (18, .int .i64 (n : Int)), (4, .pointer (some ⟨lb, 0, none⟩))]) (fun _ => f)
  (fun s => row lb 127 (pnC n vb s.2.1 s.1 s.2.2.1 (some ⟨cb, 0, none⟩)) :: slc s.2.1 s.1 s.2.2.1 128 1 (((List.range s.1).map s.2.2.2).flatMap addrV) :: fam (fun r => pastH (s.2.2.2 r) PM.new) s.1 :: row cb 158 (zeros [.slice none 0 0] n) :: row wb 122 (vwC 0 0 none 0 0 none 0 0 hb) :: mp hb encA [] :: mp vb keyU [(0, .pointer (some ⟨wb, 0, none⟩))] :: F)
  (fun s => s.1 ≤ n) (fun s => n - s.1) (0, none, 0, fun r => 0 * r) (Nat.zero_le _) ⟨rfl, rfl, rfl, trivial⟩ rfl rfl fun s hs => ?_
 obtain ⟨i, pp, pc, pb⟩ := s
 have hi : i ≤ n := hs
 show H _ _ _ [(19, .int .i64 (i : Int)), _, _] f (row lb _ (pnC n vb pp i pc _) :: slc pp i pc _ 1 (((List.range i).map pb).flatMap addrV) :: fam (fun r => pastH (pb r) PM.new) i :: _ :: _ :: _ :: _ :: F) _
 by_cases hlt : i < n
 ·skip
  refine gG ?_
  refine H.drawC [0, 1, 2, 3, 4, 5, 6, 7] (by kernel_rfl) (by decide +kernel) (by repeat (first | exact zab | refine zaa ?_ | refine zac ?_ | refine zad ?_)) (S := [_]) rfl ?_
  refine HB.Af [(0, false), (1, false), (2, false), (3, false), (4, false)] 6 (by kernel_rfl) ?_
  refine gJ ?_
  refine HQ.Ae rfl ?_
  refine HB.ev1 (i := 5) (by kernel_rfl) rfl ?_
  refine H.call rfl rfl rfl (new_fn f _) fun v f' A' hr => ?_
  obtain ⟨b, rfl, hff, rfl⟩ := hr
  rw [hff]
  refine gA ?_
  refine H.Aa (x := row lb _ _) (by repeat constructor) ?_
  refine H.on0 rfl ?_
  refine HB.ev1 (i := 6) (by kernel_rfl) rfl ?_
  refine H.Bd (out := addrV b) rfl rfl rfl rfl (by decide) (by decide) rfl rfl fun eb => ?_
  refine gA ?_
  refine H.Aa (x := row lb _ _) (by repeat constructor) ?_
  refine H.on0 rfl ?_
  refine HB.ev1 (i := 7) (by kernel_rfl) rfl ?_
  refine H.Bf (sz := 1) (p := pp) (n0 := i) (c := pc) (xs := ((List.range i).map pb).flatMap addrV) (m := 1) (news := addrV b) rfl rfl rfl rfl rfl (fun p' c' => (by repeat constructor)) (Src.slice (Rd.ofRow (by repeat constructor)) rfl) (zae rfl) rfl (by omega) (by omega) fun p2 c2 => ?_
  refine gA ?_
  refine H.Ab (x := row eb _ _) (by repeat constructor) ?_
  refine H.on0 rfl ?_
  refine HB.next [] (by kernel_rfl) (S' := []) rfl ?_
  refine HB.Af [(8, false), (9, false)] 1 (by kernel_rfl) ?_
  refine gJ ?_
  refine HQ.Ae rfl ?_
  refine HB.ev1 (i := 10) (by kernel_rfl) rfl ?_
  refine H.Bi (ls := pnC n vb pp i pc (some ⟨cb, 0, none⟩)) (ls' := pnC n vb p2 (i + 1) c2 (some ⟨cb, 0, none⟩)) rfl rfl rfl rfl (.here _ _ _) (by repeat (first | exact .here _ _ _ | apply SetV.there)) ?_
  refine gA ?_
  refine H.on0 rfl ?_
  refine HB.Aq (by kernel_rfl) ?_
  refine gK ?_
  refine H.Aa (x := fam _ _) (by repeat constructor) ?_
  refine H.Aa (x := pastH b PM.new) (by repeat constructor) ?_
  have e1 : fam (fun r => pastH (pb r) PM.new) i = fam (fun r => pastH (updF pb i b r) PM.new) i := fam_congr fun j hj => by
   show _ = pastH (updF pb i b j) PM.new
   rw [updF_ne _ _ (by omega)]
  have e2 : pastH b PM.new = pastH (updF pb i b i) PM.new := by rw [zam]
  rw [e1, e2]
  refine H.conv (fam_more (fun r => pastH (updF pb i b r) PM.new) i _) ?_
  refine H.Aa (x := slc p2 _ c2 _ _ _) (by repeat constructor) ?_
  refine H.Aa (x := row lb _ _) (by repeat constructor) ?_
  refine H.Au (i + 1, p2, c2, updF pb i b) (by show i + 1 ≤ n; omega) (by show n - (i + 1) < n - i; omega) ⟨rfl, rfl, rfl, trivial⟩ rfl ?_
  show _ :: slc p2 (i + 1) c2 _ 1 _ :: _ = _ :: slc p2 (i + 1) c2 _ 1 (((List.range (i + 1)).map (updF pb i b)).flatMap addrV) :: _
  rw [pbs_snoc]
 ·have e : i = n := by omega
  subst e
  refine gV ?_
  refine H.freeze (x := slc pp _ pc _ _ _) (by repeat constructor) fun g hg hd => ?_
  have hl : ((List.range i).map pb).length = i := by rw [List.length_map, List.length_range]
  have hpa : ListAt (un f g) pp 1 addrV ((List.range i).map pb) := (slc_listAt (xs := (List.range i).map pb) (vals := addrV) (c := pc) (T := 128) (fun _ => rfl) (by rw [hl]; exact hg)).mono (Le.right hd)
  refine H.Aa (x := row cb _ _) (by repeat constructor) ?_
  refine H.asSlc (k := i) (sz := 1) (by rw [zeros_length]; rfl) (by omega) ?_
  refine H.Aa (x := mp hb _ _) (by repeat constructor) ?_
  refine H.slc0 42 1 ?_
  refine H.slc0 49 40 ?_
  refine H.Aa (x := row wb _ _) (by repeat constructor) ?_
  refine H.imp (own_fold (x := pz wb hb)) ?_
  refine H.conv (lst_one _ _) ?_
  refine H.Aa (x := slc (some ⟨cb, 0, none⟩) _ _ _ _ _) (by repeat constructor) ?_
  refine H.Aa (x := fam _ _) (by repeat constructor) ?_
  refine H.Aa (x := lst [(pz wb hb).own]) (by repeat constructor) ?_
  refine H.Aa (x := mp vb _ _) (by repeat constructor) ?_
  refine H.Aa (x := row lb _ _) (by repeat constructor) ?_
  refine H.imp (A' := plogH (un f g) lb (Lgs.new i) :: F) (fun z hz => zai (l := Lgs.new i) ⟨[pz wb hb], vb, pp, pc, some ⟨cb, 0, none⟩, i, pb, fun _ => (none, 0)⟩ ⟨List.Perm.refl _, hpa⟩ z ?_) ?_
  ·show star _ (star _ (star _ (star _ (star _ (stars (fam (pcFam (Lgs.new i) fun _ => (none, 0)) i :: F)))))) z
   rw [fam_emp (g := pcFam (Lgs.new i) fun _ => (none, 0)) F fun j _ => slc_emp 160 2, ← zeros_rng]
   exact hz
  ·exact H.ret2 rfl rfl rfl (fun _ h => h) ⟨g, lb, hd, rfl, rfl, rfl⟩
theorem plprim_fn {lb n : Nat} {kn : Nat → Int} {vb : Nat} {pp : Option Addr} {pc : Nat} {cp : Option Addr} {cc : Nat} (hn : 1 ≤ n ∧ n ≤ 11) {v : Int} (hv : 0 ≤ v) :
  Fn Tryz.prog 113 [.pointer (some ⟨lb, 0, none⟩), .int .u64 v] f (row lb 127 (plC n kn vb pp pc cp cc) :: F) (Ret (.int .i64 (primZ n v)) f (row lb 127 (plC n kn vb pp pc cp cc) :: F)) := by
 have h1 : v % (n : Int) < n := Int.emod_lt_of_pos v (by omega)
 have h2 : 0 ≤ v % (n : Int) := Int.emod_nonneg v (by omega)
 have e : v.tmod (n : Int) = ((primI n v : Nat) : Int) := by
  unfold primI
  rw [Int.tmod_eq_emod_of_nonneg hv]
  omega
 have hl : primI n v < 11 := by unfold primI; omega
 refine Fn.enter Tryz.func113 rfl Tryz.ntmps113 rfl (L := [(0, _), (1, _)]) ⟨rfl, rfl, trivial⟩ fun base => ?_
 refine gM ?_
 refine H.rem (z := ((primI n v : Nat) : Int)) rfl rfl rfl (by omega) e rfl ?_
 refine gK ?_
 exact H.Ac rfl rfl (fun _ h => h) ⟨rfl, rfl, rfl⟩
theorem plpast_nil {r : Int} : Fn Tryz.prog 52 [.pointer none, .int .i64 r] f F (Ret (.pointer none) f F) := by
 refine Fn.enter Tryz.func52 rfl Tryz.ntmps52 rfl (L := [(0, _), (1, _)]) ⟨rfl, rfl, trivial⟩ fun base => ?_
 refine gW ?_
 exact H.Ac rfl rfl (fun _ h => h) ⟨rfl, rfl, rfl⟩
theorem plpast_fn {fl : Frag} (hfl : Le fl f) {lb o : Nat} {l : Lgs} {i : PPt} (hi : plφ fl l i) (hn : l.n ≤ 11) (ho : o < l.n) {r : Int} (hr : r = ((o + 1 : Nat) : Int)) :
  Fn Tryz.prog 52 [.pointer (some ⟨lb, 0, none⟩), .int .i64 r] f (row lb 127 (plC l.n l.known i.vb i.pp i.pc i.cp i.cc) :: F) (Ret (.pointer (some ⟨i.pb o, 0, none⟩)) f (row lb 127 (plC l.n l.known i.vb i.pp i.pc i.cp i.cc) :: F)) := by
 obtain ⟨pb, off, hpp, rd⟩ := hi.past (by omega)
 rw [hpp]
 have hr1 : r - 1 = (o : Int) := by omega
 refine Fn.enter Tryz.func52 rfl Tryz.ntmps52 rfl (L := [(0, _), (1, _)]) ⟨rfl, rfl, trivial⟩ fun base => ?_
 refine gP ?_
 refine H.Bt (i := o) rfl rfl rfl hr1 ho rfl ?_
 refine H.Ag rfl rfl rfl (by rw [Nat.mul_one]; exact rd hfl ho) rfl ?_
 refine ga ?_
 exact H.Ac rfl rfl (fun _ h => h) ⟨rfl, rfl, rfl⟩
def PutR (f : Frag) (F : List HP) (b : Nat) (num : Int) (s : Nat) (R : List Req) (np : Option Addr) (k nc hb : Nat) : Value → Frag → List HP → Prop := fun _ f' A' =>
 ∃ (lp : Option Addr) (lc : Nat), f' = f ∧ A' = row b 122 (vwC num s lp R.length lc np k nc hb) :: slc lp R.length lc 49 40 (R.flatMap Req.vals) :: mp hb encA (heldKV R) :: F
theorem vput_fn {b : Nat} {num : Int} {s : Nat} {lp : Option Addr} {lc : Nat} {R : List Req} {np : Option Addr} {k nc hb : Nat} (hl : R.length ≤ 100000) (r : Req) :
  Fn Tryz.prog 117 [.pointer (some ⟨b, 0, none⟩), .agg r.vals.toArray] f (row b 122 (vwC num s lp R.length lc np k nc hb) :: slc lp R.length lc 49 40 (R.flatMap Req.vals) :: mp hb encA (heldKV R) :: F)
   (PutR f F b num s (R ++ [r]) np k nc hb) := by
 refine Fn.enter Tryz.func117 rfl Tryz.ntmps117 rfl (L := [(0, _), (1, _)]) ⟨rfl, rfl, trivial⟩ fun base => ?_
 refine gA ?_
 refine H.box (ls := r.vals) rfl rfl rfl rfl fun xb => ?_
 refine gA ?_
 refine H.drawC [0, 1, 2, 3, 4, 5, 6, 7] (by kernel_rfl) (by decide +kernel) (by repeat (first | exact zab | refine zaa ?_ | refine zac ?_ | refine zad ?_)) (S := [_, _]) rfl ?_
 refine HB.Af [(0, false), (1, false), (2, false), (3, false), (4, false), (5, false)] 5 (by kernel_rfl) ?_
 refine gJ ?_
 refine HQ.Aj (ls := r.vals) rfl rfl rfl (Rd.ofRow (.here _ _ _)) rfl rfl ?_
 refine HQ.Ae rfl ?_
 refine HB.ev1 (i := 6) (by kernel_rfl) rfl ?_
 refine H.Bd (out := r.vals) rfl rfl rfl rfl (by decide) (by decide) rfl rfl fun eb => ?_
 refine gA ?_
 refine H.Aa (x := row b _ _) (by repeat constructor) ?_
 refine H.Aa (x := row xb _ _) (by repeat constructor) ?_
 refine H.on0 rfl ?_
 refine HB.ev1 (i := 7) (by kernel_rfl) rfl ?_
 refine H.Bf (p := lp) (n0 := R.length) (c := lc) (xs := R.flatMap Req.vals) (m := 1) (news := r.vals) rfl rfl rfl rfl rfl (fun p' c' => (by repeat constructor)) (Src.slice (Rd.ofRow (by repeat constructor)) rfl) (zae rfl) rfl (by omega) (by omega) fun p2 c2 => ?_
 refine gA ?_
 refine H.Ab (x := row eb _ _) (by repeat constructor) ?_
 refine H.on0 rfl ?_
 refine HB.next [] (by kernel_rfl) (S' := []) rfl ?_
 refine HB.Af [(8, false), (9, false)] 1 (by kernel_rfl) ?_
 refine gJ ?_
 refine HQ.Ae rfl ?_
 refine HB.ev1 (i := 10) (by kernel_rfl) rfl ?_
 refine H.Bi (ls := vwC num s lp R.length lc np k nc hb) (ls' := vwC num s p2 (R.length + 1) c2 np k nc hb) rfl rfl rfl rfl (.there _ (.here _ _ _)) (by repeat (first | exact .here _ _ _ | apply SetV.there)) ?_
 refine gA ?_
 refine H.on0 rfl ?_
 refine HB.Aq (by kernel_rfl) ?_
 refine gA ?_
 refine H.drawC [0, 1, 2, 3, 4, 5, 6, 7, 8] (by kernel_rfl) (by decide +kernel) (by repeat (first | exact zab | refine zaa ?_ | refine zac ?_ | refine zad ?_)) (S := [_, _]) rfl ?_
 refine HB.Af [(0, false), (1, false), (2, false), (3, false), (4, false), (5, false), (6, false), (7, false), (8, false)] 1 (by kernel_rfl) ?_
 refine gT ?_
 refine HQ.Ae rfl ?_
 refine HB.next [] (by kernel_rfl) (S' := []) rfl ?_
 refine HB.ev1 (i := 9) (by kernel_rfl) rfl ?_
 refine H.mapUpdate (enc := encA) (k := (r.client, r.time)) (v := .bool true) rfl rfl rfl rfl (by repeat constructor) rfl ?_
 refine gA ?_
 refine H.on0 rfl ?_
 refine HB.Aq (by kernel_rfl) ?_
 skip
 refine H.Ab (x := row xb _ _) (by repeat constructor) ?_
 have e1 : (R ++ [r]).length = R.length + 1 := by rw [List.length_append]; rfl
 have e2 : (R ++ [r]).flatMap Req.vals = R.flatMap Req.vals ++ r.vals := by rw [List.flatMap_append]; simp
 exact H.end0 rfl (fun _ h => h) ⟨p2, c2, rfl, by rw [e1, e2, heldKV_snoc]; rfl⟩
end
def lowN (P : List (Int × Req)) (t : Int) : Nat := (P.filter fun y => decide (y.1 < t)).length
def RiseN (P : List (Int × Req)) : Prop := ∀ (i j : Nat) (y z : Int × Req), i < j → P[i]? = some y → P[j]? = some z → y.1 < z.1
theorem low_eq {P : List (Int × Req)} {t : Int} {k : Nat} (hk : k ≤ P.length) (h1 : ∀ (j : Nat) (y : Int × Req), j < k → P[j]? = some y → y.1 < t) (h2 : ∀ (j : Nat) (y : Int × Req), k ≤ j → P[j]? = some y → t ≤ y.1) : lowN P t = k := by
 unfold lowN
 conv => lhs; rw [← List.take_append_drop k P]
 rw [List.filter_append, List.length_append]
 have e1 : (P.take k).filter (fun y => decide (y.1 < t)) = P.take k := List.filter_eq_self.2 fun y hy => by
  obtain ⟨j, hj⟩ := List.getElem?_of_mem hy
  have hjk : j < k := by
   have := (List.getElem?_eq_some_iff.1 hj).1
   rw [List.length_take] at this
   omega
  rw [List.getElem?_take_of_lt hjk] at hj
  exact decide_eq_true (h1 j y hjk hj)
 have e2 : (P.drop k).filter (fun y => decide (y.1 < t)) = [] := List.filter_eq_nil_iff.2 fun y hy => by
  obtain ⟨j, hj⟩ := List.getElem?_of_mem hy
  rw [List.getElem?_drop] at hj
  have := h2 (k + j) y (by omega) hj
  simp
  omega
 rw [e1, e2, List.length_take]
 show min k P.length + 0 = k
 omega
theorem low_knows {P : List (Int × Req)} (hs : RiseN P) (t : Int) : (P.filter fun y => decide (y.1 ≤ t)).length = lowN P t + (if P.any (fun y => decide (y.1 = t)) = true then 1 else 0) := by
 induction P with
 | nil => rfl
 | cons x P ih =>
  have hs2 : RiseN P := fun i j y z hij hy hz => hs (i + 1) (j + 1) y z (by omega) (by simpa using hy) (by simpa using hz)
  have hup : ∀ y ∈ P, x.1 < y.1 := fun y hy => by
   obtain ⟨j, hj⟩ := List.getElem?_of_mem hy
   exact hs 0 (j + 1) x y (by omega) rfl (by simpa using hj)
  have ih := ih hs2
  unfold lowN at ih ⊢
  rw [List.filter_cons, List.filter_cons, List.any_cons]
  by_cases h1 : x.1 < t
  ·rw [if_pos (decide_eq_true (by omega)), if_pos (decide_eq_true h1), decide_eq_false (by omega), Bool.false_or, List.length_cons, List.length_cons, ih]
   omega
  ·have e2 : P.filter (fun y => decide (y.1 < t)) = [] := List.filter_eq_nil_iff.2 fun y hy => by have := hup y hy; simp; omega
   have e3 : P.filter (fun y => decide (y.1 ≤ t)) = [] := List.filter_eq_nil_iff.2 fun y hy => by have := hup y hy; simp; omega
   have e4 : P.any (fun y => decide (y.1 = t)) = false := List.any_eq_false.2 fun y hy => by have := hup y hy; simp; omega
   rw [e2, e3, e4, Bool.or_false, if_neg (show ¬ decide (x.1 < t) = true by rw [decide_eq_false h1]; decide)]
   by_cases h2 : x.1 = t
   ·rw [if_pos (decide_eq_true (by omega)), decide_eq_true h2]; rfl
   ·rw [if_neg (show ¬ decide (x.1 ≤ t) = true by rw [decide_eq_false (by omega)]; decide), decide_eq_false h2]; rfl
theorem shr1 (m : Nat) : shiftI .shr .u64 (m : Int) 1 = some ((m / 2 : Nat) : Int) := by
 show some ((m : Int).fdiv 2) = some _
 congr 1
 rw [Int.fdiv_eq_ediv_of_nonneg _ (by decide)]
 omega
theorem numV_len (y : Int × Req) : (numV y).length = 1 := rfl
theorem num_rd {f : Frag} {A A' : List HP} {b c : Nat} {T : TypeId} {P : List (Int × Req)} {i : Nat} {y : Int × Req} (h : At A (slc (some ⟨b, 0, none⟩) P.length c T 1 (P.flatMap numV)) A' (slc (some ⟨b, 0, none⟩) P.length c T 1 (P.flatMap numV))) (hy : P[i]? = some y) : Rd1 f A b (0 + i * 1) (.int .u64 y.1) := by
 have h1 := Rd1.of (i := 0) (Rd.slcElem (f := f) numV_len (by decide) h hy) (v := .int .u64 y.1) rfl
 rw [Nat.add_zero] at h1
 rw [Nat.zero_add]
 exact h1
section
variable (f : Frag) (F : List HP)
theorem nan1_fn (x : Int) : Fn Tryz.prog 198 [.int .u64 x] f F (Ret (.bool false) f F) := by
 refine Fn.enter Tryz.func198 rfl Tryz.ntmps198 rfl (L := [(0, _)]) ⟨rfl, trivial⟩ fun base => ?_
 refine gV ?_
 refine H.Ac rfl rfl (fun _ h => h) ⟨?_, rfl, rfl⟩
 simp
theorem nan2_fn (x : Int) : Fn Tryz.prog 192 [.int .u64 x] f F (Ret (.bool false) f F) := by
 refine Fn.enter Tryz.func192 rfl Tryz.ntmps192 rfl (L := [(0, _)]) ⟨rfl, trivial⟩ fun base => ?_
 refine gV ?_
 refine H.Ac rfl rfl (fun _ h => h) ⟨?_, rfl, rfl⟩
 simp
theorem less64_fn (x y : Int) : Fn Tryz.prog 172 [.int .u64 x, .int .u64 y] f F (Ret (.bool (decide (x < y))) f F) := by
 refine Fn.enter Tryz.func172 rfl Tryz.ntmps172 rfl (L := [(0, _), (1, _)]) ⟨rfl, rfl, trivial⟩ fun base => ?_
 refine gU ?_
 refine H.Ad rfl rfl rfl (nan1_fn f _ x) ?_
 refine gW ?_
 exact H.Ac rfl rfl (fun _ h => h) ⟨rfl, rfl, rfl⟩
set_option maxHeartbeats 1600000 in
theorem bsearch_fn {p : Option Addr} {c : Nat} {P : List (Int × Req)} (hs : RiseN P) (hl : P.length ≤ 100000) (t : Int) :
  Fn Tryz.prog 165 [.slice p P.length c, .int .u64 t] f (slc p P.length c 42 1 (P.flatMap numV) :: F)
   (Ret (.tuple #[.int .i64 (lowN P t : Nat), .bool (P.any fun y => decide (y.1 = t))]) f (slc p P.length c 42 1 (P.flatMap numV) :: F)) := by
 refine Fn.enter Tryz.func165 rfl Tryz.ntmps165 rfl (L := [(0, _), (1, _)]) ⟨rfl, rfl, trivial⟩ fun base => ?_
 refine ga ?_
 refine H.Ax (ι := Nat × Nat) (fun s => [(7, .int .i64 (s.1 : Int)), (8, .int .i64 (s.2 : Int)), (6, .int .i64 (P.length : Nat)), (0, .slice p P.length c), (1, .int .u64 t)]) (fun _ => f)
  (fun _ => slc p P.length c 42 1 (P.flatMap numV) :: F)
  (fun s => s.1 ≤ s.2 ∧ s.2 ≤ P.length ∧ (∀ (j : Nat) (y : Int × Req), j < s.1 → P[j]? = some y → y.1 < t) ∧ ∀ (j : Nat) (y : Int × Req), s.2 ≤ j → P[j]? = some y → t ≤ y.1) (fun s => s.2 - s.1)
  (0, P.length) ⟨Nat.zero_le _, Nat.le_refl _, fun j y h => absurd h (Nat.not_lt_zero _), fun j y h hy => by have := (List.getElem?_eq_some_iff.1 hy).1; have h : P.length ≤ j := h; omega⟩ ⟨rfl, rfl, rfl, rfl, rfl, trivial⟩ rfl rfl fun s hs2 => ?_
 obtain ⟨i, j⟩ := s
 obtain ⟨hij, hjl, hlo, hhi⟩ : i ≤ j ∧ j ≤ P.length ∧ (∀ (k : Nat) (y : Int × Req), k < i → P[k]? = some y → y.1 < t) ∧ ∀ (k : Nat) (y : Int × Req), j ≤ k → P[k]? = some y → t ≤ y.1 := hs2
 show H _ _ _ [(7, .int .i64 (i : Int)), (8, .int .i64 (j : Int)), _, _, _] _ _ _
 by_cases hlt : i < j
 ·obtain ⟨h, hh⟩ : ∃ h, h = (i + j) / 2 := ⟨_, rfl⟩
  have hhl : h < P.length := by omega
  obtain ⟨y, hy⟩ : ∃ y, P[h]? = some y := ⟨_, List.getElem?_eq_getElem hhl⟩
  refine H.Ce (p := p) (n0 := P.length) (c := c) (.here _ _ _) (by omega) fun sb hp => ?_
  subst hp
  refine gQ ?_
  refine H.shift (op := .shr) rfl rfl rfl (shr1 (i + j)) (by decide) (congrArg Nat.cast hh.symm) rfl ?_
  refine gK ?_
  refine H.Bt (i := h) rfl rfl rfl rfl hhl rfl ?_
  refine H.Ag rfl rfl rfl (num_rd (.here _ _ _) hy) rfl ?_
  refine gU ?_
  refine H.Ad rfl rfl rfl (less64_fn f _ _ _) ?_
  by_cases hyt : y.1 < t
  ·skip
   refine gQ ?_
   exact H.Au (h + 1, j) ⟨by show h + 1 ≤ j; omega, hjl, fun k z hk hz => by
    have hk : k < h + 1 := hk
    by_cases e : k = h
    ·rw [e, hy] at hz; cases hz; exact hyt
    ·have := hs k h z y (by omega) hz hy; omega, hhi⟩ (by show j - (h + 1) < j - i; omega) ⟨rfl, rfl, rfl, rfl, rfl, trivial⟩ rfl rfl
  ·skip
   refine gV ?_
   exact H.Au (i, h) ⟨by show i ≤ h; omega, by show h ≤ P.length; omega, hlo, fun k z hk hz => by
    have hk : h ≤ k := hk
    by_cases e : k = h
    ·rw [e, hy] at hz; cases hz; omega
    ·have := hs h k y z (by omega) hy hz; omega⟩ (by show h - i < j - i; omega) ⟨rfl, rfl, rfl, rfl, rfl, trivial⟩ rfl rfl
 ·have hij2 : i = j := by omega
  have hlow : lowN P t = i := low_eq (by omega) hlo (fun k y h => hhi k y (by omega))
  rw [hlow]
  by_cases hin : i < P.length
  ·obtain ⟨y, hy⟩ : ∃ y, P[i]? = some y := ⟨_, List.getElem?_eq_getElem hin⟩
   refine H.Ce (p := p) (n0 := P.length) (c := c) (.here _ _ _) (by omega) fun sb hp => ?_
   subst hp
   by_cases hyt : y.1 = t
   ·have hany : P.any (fun y => decide (y.1 = t)) = true := List.any_eq_true.2 ⟨y, List.mem_of_getElem? hy, decide_eq_true hyt⟩
    rw [hany]
    refine gQ ?_
    refine H.Bt (i := i) rfl rfl rfl rfl hin rfl ?_
    refine H.Ag rfl rfl rfl (num_rd (.here _ _ _) hy) rfl ?_
    refine gZ ?_
    exact H.ret2 rfl rfl rfl (fun _ h => h) ⟨rfl, rfl, rfl⟩
   ·have hany : P.any (fun y => decide (y.1 = t)) = false := List.any_eq_false.2 fun z hz => by
     obtain ⟨k, hk⟩ := List.getElem?_of_mem hz
     rw [decide_eq_true_eq]
     intro e
     rcases Nat.lt_trichotomy k i with h | h | h
     ·have := hlo k z h hk; omega
     ·rw [h, hy] at hk; cases hk; exact hyt e
     ·have h1 := hs i k y z h hy hk
      have h2 := hhi i y (by omega) hy
      omega
    rw [hany]
    refine gQ ?_
    refine H.Bt (i := i) rfl rfl rfl rfl hin rfl ?_
    refine H.Ag rfl rfl rfl (num_rd (.here _ _ _) hy) rfl ?_
    refine gZ ?_
    refine H.Bt (i := i) rfl rfl rfl rfl hin rfl ?_
    refine H.Ag rfl rfl rfl (num_rd (.here _ _ _) hy) rfl ?_
    refine H.Ad rfl rfl rfl (nan2_fn f _ _) ?_
    refine gW ?_
    exact H.ret2 rfl rfl rfl (fun _ h => h) ⟨rfl, rfl, rfl⟩
  ·have hany : P.any (fun y => decide (y.1 = t)) = false := List.any_eq_false.2 fun z hz => by
    obtain ⟨k, hk⟩ := List.getElem?_of_mem hz
    rw [decide_eq_true_eq]
    intro e
    have := (List.getElem?_eq_some_iff.1 hk).1
    have := hlo k z (by omega) hk
    omega
   rw [hany]
   refine gY ?_
   exact H.ret2 rfl rfl rfl (fun _ h => h) ⟨rfl, rfl, rfl⟩
theorem until_fn {b hb : Nat} {w : Vw} {lp : Option Addr} {lc : Nat} {np : Option Addr} {nc : Nat} (hs : RiseN w.p) (hl : w.all.length ≤ 100000) (t : Int) :
  Fn Tryz.prog 121 [.pointer (some ⟨b, 0, none⟩), .int .u64 t] f (slc np w.p.length nc 42 1 (w.p.flatMap numV) :: row b 122 (vwC w.num w.s.length lp w.all.length lc np w.p.length nc hb) :: F)
   (Ret (.int .i64 (knowsV w t : Nat)) f (slc np w.p.length nc 42 1 (w.p.flatMap numV) :: row b 122 (vwC w.num w.s.length lp w.all.length lc np w.p.length nc hb) :: F)) := by
 have hal := w.all_len
 have hk := low_knows hs t
 have hkl : knowsV w t = w.s.length + (lowN w.p t + (if w.p.any (fun y => decide (y.1 = t)) = true then 1 else 0)) := by unfold knowsV; rw [hk]
 have hlow : lowN w.p t ≤ w.p.length := List.length_filter_le _ _
 have hbs := fun G => bsearch_fn f G (p := np) (c := nc) hs (by omega) t
 rw [hkl]
 generalize lowN w.p t = k at *
 cases ha : w.p.any fun y => decide (y.1 = t) with
 | true =>
  rw [ha] at hbs
  rw [if_pos rfl]
  refine Fn.enter Tryz.func121 rfl Tryz.ntmps121 rfl (L := [(0, _), (1, _)]) ⟨rfl, rfl, trivial⟩ fun base => ?_
  refine gM ?_
  refine H.Ad rfl rfl rfl (hbs _) ?_
  refine gN ?_
  refine H.Ac rfl rfl (fun _ h => h) ⟨?_, rfl, rfl⟩
  congr 1
 | false =>
  rw [ha] at hbs
  rw [if_neg (by decide)]
  refine Fn.enter Tryz.func121 rfl Tryz.ntmps121 rfl (L := [(0, _), (1, _)]) ⟨rfl, rfl, trivial⟩ fun base => ?_
  refine gM ?_
  refine H.Ad rfl rfl rfl (hbs _) ?_
  refine gN ?_
  refine H.Ac rfl rfl (fun _ h => h) ⟨?_, rfl, rfl⟩
  congr 1
end
section
variable (f : Frag) (F : List HP)
end
section
variable (f : Frag) (F : List HP)
end
section
variable (f : Frag) (F : List HP)
end
section
variable (f : Frag) (F : List HP)
theorem tclient_fn (htab : TabAt f) {i : Int} (h1 : 1 ≤ i) (h2 : i ≤ 8) : Fn Tryz.prog 191 [.int .i64 i] f F (BytesR (Sha.word32 clientW i) f F) := by
 refine Fn.enter Tryz.func191 rfl Tryz.ntmps191 rfl (L := [(0, _)]) ⟨rfl, trivial⟩ fun base => ?_
 refine gU ?_
 refine H.Ar rfl rfl rfl (tkey_fn (w := ⟨#[114, 97, 116, 99, 104, 101, 116, 32, 99, 108, 105, 101, 110, 116]⟩) f _ htab h1 h2 (by decide) (by decide)) fun p1 c1 => ?_
 refine ga ?_
 exact H.Ac rfl rfl (fun _ h => h) ⟨p1, c1, rfl, rfl, rfl⟩
theorem sign_fn (htab : TabAt f) {r : Req} (ha : r.asked) : Fn Tryz.prog 163 [.agg r.vals.toArray] f F (Ret (.agg (b32 r.sig).toArray) f F) := by
 have hbl := Req.bytes_max ha
 have hcl := fun G => tclient_fn f G htab ha.1 ha.2.1
 have hrq := fun G p c => request_fn f G (p := p) (c := c) (l := []) r ha (by decide)
 have hk : (Sha.word32 clientW r.client).length = 32 := rfl
 unfold Req.sig
 generalize Sha.word32 clientW r.client = key at hk hcl ⊢
 rw [show ([] : List UInt8) ++ r.bytes = r.bytes from rfl] at hrq
 generalize r.bytes = rb at hbl hrq ⊢
 refine Fn.enter Tryz.func163 rfl Tryz.ntmps163 rfl (L := [(0, _)]) ⟨rfl, trivial⟩ fun base => ?_
 refine gA ?_
 refine H.box (ls := r.vals) rfl rfl rfl rfl fun qb => ?_
 refine H.Av (ls := zb 32) rfl rfl rfl fun ob => ?_
 refine gA ?_
 refine H.Aa (.there _ (.here _ _)) ?_
 refine H.Ay (by kernel_rfl) (by decide +kernel) (by repeat (first | exact zab | refine zaa ?_ | refine zac ?_ | refine zad ?_)) (S := [_]) rfl ?_
 refine HB.Af [(0, false), (1, false), (3, false)] 4 (by kernel_rfl) ?_
 refine gJ ?_
 refine HQ.Aj (ls := r.vals) rfl rfl rfl (Rd.ofRow (.here _ _ _)) rfl rfl ?_
 refine HQ.Ae rfl ?_
 refine HB.ev1 (i := 2) (by kernel_rfl) rfl ?_
 refine H.Ar rfl rfl rfl (hcl _) fun p1 c1 => ?_
 refine gA ?_
 refine H.Aa (.there _ (.here _ _)) ?_
 refine H.on0 rfl ?_
 refine HB.ev1 (i := 4) (by kernel_rfl) rfl ?_
 refine H.slc0 5 1 ?_
 refine H.Ar rfl rfl rfl (hrq _ none 0) fun p2 c2 => ?_
 refine H.slc_cap (.here _ _ _) fun hc2 _ _ => ?_
 refine gA ?_
 refine H.Aa (x := row qb _ _) (by repeat constructor) ?_
 refine H.on0 rfl ?_
 refine HB.ev1 (i := 5) (by kernel_rfl) rfl ?_
 refine H.Aa (x := slc p2 _ _ _ _ _) (by repeat constructor) ?_
 refine H.Aa (x := slc p1 _ _ _ _ _) (by repeat constructor) ?_
 refine H.Ad rfl rfl rfl (thmac_ss f _ htab (key := key) (b := rb) hc2 (by omega) (by omega)) ?_
 generalize Sha.hmac key rb = t
 refine H.Ab (.here _ _) ?_
 refine H.Ab (.here _ _) ?_
 refine gA ?_
 refine H.on0 rfl ?_
 refine HB.ev1 (i := 6) (by kernel_rfl) rfl ?_
 refine H.Ap (ls := zb 32) (vs := b32 t) (ls' := b32 t) rfl rfl rfl (zae rfl) rfl rfl (Nat.le_refl 32) (.there _ (.here _ _ _)) ?_
 refine gA ?_
 refine H.on0 rfl ?_
 refine HB.Aq (by kernel_rfl) ?_
 refine ga ?_
 refine H.Ab (.here _ _) ?_
 exact H.retD rfl rfl rfl (Rd.ofRow (.here _ _ _)) rfl (fun _ s => s.drop (.here _ _)) ⟨rfl, rfl, rfl⟩
theorem auth_fn (htab : TabAt f) (r : Req) : Fn Tryz.prog 118 [.agg r.vals.toArray] f F (Ret (.bool r.auth) f F) := by
 have has := fun G => asked_fn f G r
 unfold Req.auth
 by_cases ha : r.asked
 ·have hsg := fun G => sign_fn f G htab ha
  have hsm := fun G => tsame_fn f G (a := r.tag) (b := r.sig)
  rw [decide_eq_true ha, Bool.true_and]
  rw [decide_eq_true ha] at has
  generalize eq32 r.tag r.sig = e at hsm ⊢
  generalize r.sig = t at hsg hsm
  refine Fn.enter Tryz.func118 rfl Tryz.ntmps118 rfl (L := [(0, _)]) ⟨rfl, trivial⟩ fun base => ?_
  refine gA ?_
  refine H.box (ls := r.vals) rfl rfl rfl rfl fun qb => ?_
  refine gU ?_
  refine H.Ay (by kernel_rfl) (by decide +kernel) (by repeat (first | exact zab | refine zaa ?_ | refine zac ?_ | refine zad ?_)) (S := [_]) rfl ?_
  refine HB.Af [(0, false)] 9 (by kernel_rfl) ?_
  refine HQ.Aj (ls := r.vals) rfl rfl rfl (Rd.ofRow (.here _ _ _)) rfl rfl ?_
  refine HQ.Ae rfl ?_
  refine HB.ev1 (i := 1) (by kernel_rfl) rfl ?_
  refine H.Ad rfl rfl rfl (has _) ?_
  refine gA ?_
  refine H.on0 rfl ?_
  refine HB.Af [(2, false), (3, false), (4, false), (5, false)] 4 (by kernel_rfl) ?_
  refine gJ ?_
  refine HQ.Aj (ls := b32 r.tag) rfl rfl rfl (req_tag (.here _ _ _)) rfl rfl ?_
  refine HQ.Aj (ls := r.vals) rfl rfl rfl (Rd.ofRow (.here _ _ _)) rfl rfl ?_
  refine HQ.Ae rfl ?_
  refine HB.ev1 (i := 6) (by kernel_rfl) rfl ?_
  refine H.Ad rfl rfl rfl (hsg _) ?_
  refine gA ?_
  refine H.on0 rfl ?_
  refine HB.ev1 (i := 7) (by kernel_rfl) rfl ?_
  refine H.Ad rfl rfl rfl (hsm _) ?_
  refine gA ?_
  refine H.on0 rfl ?_
  refine HB.Af [(8, false), (9, false)] 0 (by kernel_rfl) ?_
  refine gO ?_
  refine HQ.Ae rfl ?_
  refine HB.Aq (by kernel_rfl) ?_
  refine ga ?_
  refine H.Ab (.here _ _) ?_
  exact H.Ac rfl rfl (fun _ h => h) ⟨rfl, rfl, rfl⟩
 ·rw [decide_eq_false ha, Bool.false_and]
  rw [decide_eq_false ha] at has
  refine Fn.enter Tryz.func118 rfl Tryz.ntmps118 rfl (L := [(0, _)]) ⟨rfl, trivial⟩ fun base => ?_
  refine gA ?_
  refine H.box (ls := r.vals) rfl rfl rfl rfl fun qb => ?_
  refine gU ?_
  refine H.Ay (by kernel_rfl) (by decide +kernel) (by repeat (first | exact zab | refine zaa ?_ | refine zac ?_ | refine zad ?_)) (S := [_]) rfl ?_
  refine HB.Af [(0, false)] 9 (by kernel_rfl) ?_
  refine HQ.Aj (ls := r.vals) rfl rfl rfl (Rd.ofRow (.here _ _ _)) rfl rfl ?_
  refine HQ.Ae rfl ?_
  refine HB.ev1 (i := 1) (by kernel_rfl) rfl ?_
  refine H.Ad rfl rfl rfl (has _) ?_
  refine gA ?_
  refine H.on0 rfl ?_
  refine HB.Af [(2, false), (3, false), (4, false), (5, false)] 4 (by kernel_rfl) ?_
  refine gO ?_
  refine HQ.Ae rfl ?_
  refine HB.ev1 (i := 6) (by kernel_rfl) rfl ?_
  refine gC ?_
  refine H.on0 rfl ?_
  refine HB.ev1 (i := 7) (by kernel_rfl) rfl ?_
  refine gC ?_
  refine H.on0 rfl ?_
  refine HB.Af [(8, false), (9, false)] 0 (by kernel_rfl) ?_
  refine gO ?_
  refine HQ.Ae rfl ?_
  refine HB.Aq (by kernel_rfl) ?_
  refine ga ?_
  refine H.Ab (.here _ _) ?_
  exact H.Ac rfl rfl (fun _ h => h) ⟨rfl, rfl, rfl⟩
end
end Go.Proofs.YtdcjlgigcbinjaaGreatDoor
