/- Parts of the proof, one behind the other, each under its own heading. No conditions. -/
import Derived.Test.YtdcjlgigcbinjaaGreatDoorZ07
import Derived.Test.YtdcjlgigcbinjaaGreatDoorRows
import Derived.Test.YtdcjlgigcbinjaaGreatDoorCards
import Derived.Test.YtdcjlgigcbinjaaGreatDoorTie
set_option linter.unusedSectionVars false
set_option linter.unusedSimpArgs false
set_option linter.unusedVariables false
/- Layer 15: the document's worlds: a replica's greatest view; what is asked. No condition. -/
namespace Go.Proofs.YtdcjlgigcbinjaaGreatDoor
open Go
def w15C (kb n : Nat) (ap : Option Addr) (m ac lb : Nat) : List Value := [.slice (some ⟨kb, 0, none⟩) n n, .slice ap m ac, .pointer (some ⟨lb, 0, none⟩)]
section
variable (f : Frag) (F : List HP)
theorem great_fn {fl : Frag} (hfl : Le fl f) {wb kb lb : Nat} {l : Lgs} {T : Nat} (hL : LI l T) {ap : Option Addr} {m ac n o : Nat} (ho : o < l.n) :
  Fn Tryz.prog 96 [.pointer (some ⟨wb, 0, none⟩), .int .i64 ((o + 1 : Nat) : Int)] f (logsH fl lb l :: row wb 37 (w15C kb n ap m ac lb) :: F)
   (Ret (.int .u64 (l.past o).g) f (logsH fl lb l :: row wb 37 (w15C kb n ap m ac lb) :: F)) := by
 refine Fn.unpack fun i0 hi => ?_
 obtain ⟨V, vp, vc, pp, pc, cp, cc, pb, cs⟩ := i0
 have hiF := hi.mono hfl
 have hn := hL.n3
 obtain ⟨pbb, poff, hpp0, rdp0⟩ := hiF.past (by show 0 < l.n; omega)
 have hpp : pp = some ⟨pbb, poff, none⟩ := hpp0
 have rdp : ∀ {A : List HP} {r : Nat}, r < l.n → Rd1 f A pbb (poff + r) (.pointer (some ⟨pb r, 0, none⟩)) := fun {A r} hr => rdp0 (Le.refl f) hr
 clear hpp0 rdp0
 show Fn _ _ _ f (row lb 148 (lgC l.n l.known vp V.length vc pp pc cp cc) :: slc vp V.length vc 143 4 (V.flatMap VV.vals) :: lst (V.map VV.own) :: fam (fun r => pstH (pb r) (l.past r)) l.n :: slc cp l.n cc 184 1 (chRow l cs) :: fam (chFam l cs) l.n :: _ :: F) _
 refine Fn.enter Tryz.func96 rfl Tryz.ntmps96 rfl (L := [(0, _), (1, _)]) ⟨rfl, rfl, trivial⟩ fun base => ?_
 refine gK ?_
 refine H.Ap (b := pbb) (off := poff) (i := o) rfl (by rw [← hpp]; rfl) rfl (by omega) ho rfl ?_
 refine H.Ad rfl rfl rfl (by rw [Nat.mul_one]; exact rdp ho) rfl ?_
 refine H.Aa (x := fam (fun r => pstH _ _) _) (by repeat constructor) ?_
 refine H.famPull ho ?_
 refine pstH_openH fun eb ec => ?_
 refine gY ?_
 refine H.imp (zam (b := pb o) (eb := eb) (ec := ec) (s := l.past o)) ?_
 refine H.famBack (g := fun r => pstH (pb r) (l.past r)) ho ?_
 refine H.Aa (x := fam (chFam l cs) _) (by repeat constructor) ?_
 refine H.Aa (x := slc cp _ cc _ _ _) (by repeat constructor) ?_
 refine H.Aa (x := fam (fun r => pstH _ _) _) (by repeat constructor) ?_
 refine H.Aa (x := lst (V.map VV.own)) (by repeat constructor) ?_
 refine H.Aa (x := slc vp _ vc _ _ _) (by repeat constructor) ?_
 refine H.Aa (x := row lb _ _) (by repeat constructor) ?_
 refine H.imp (zah ⟨V, vp, vc, pp, pc, cp, cc, pb, cs⟩ hi) ?_
 exact H.Ac rfl rfl (fun _ h => h) ⟨rfl, rfl, rfl⟩
theorem byte_toNat {k : Nat} (h : k < 256) : ((UInt8.ofNat k).toNat : Int) = (k : Int) := by
 rw [UInt8.toNat_ofNat']
 omega
set_option maxHeartbeats 1600000 in
theorem ask_fn (x : A15) : Fn Tryz.prog 97 [.agg x.vals.toArray] f F (Ret (.agg x.req.vals.toArray) f F) := by
 have hcm : ((x.client.toNat % 3 : Nat) : Int) ≤ 2 := by omega
 have hkm : ((x.key.toNat % 4 : Nat) : Int) ≤ 3 := by omega
 have htm : ((x.time.toNat % 10 : Nat) : Int) ≤ 9 := by omega
 have ht := x.time.toNat_lt
 have hsg := fun G => rsigned_fn f G x.req0
 refine Fn.enter Tryz.func97 rfl Tryz.ntmps97 rfl (L := [(0, _)]) ⟨rfl, trivial⟩ fun base => ?_
 refine gA ?_
 refine H.box (ls := x.vals) rfl rfl rfl rfl fun xb => ?_
 refine H.Am (ls := Req.zero.vals) rfl rfl rfl fun ob => ?_
 refine gK ?_
 refine H.rem (z := ((x.client.toNat % 3 : Nat) : Int)) rfl rfl rfl (by decide) (zak (b := 3) rfl) rfl ?_
 refine gS ?_
 refine H.rem (z := ((x.key.toNat % 4 : Nat) : Int)) rfl rfl rfl (by decide) (zak (b := 4) rfl) rfl ?_
 refine ge ?_
 refine H.know (d := 16) (u := .int .u8 ((UInt8.ofNat (97 + x.key.toNat % 4)).toNat : Nat)) rfl (by rw [byte_toNat (by omega)]; rfl) ?_
 refine H.Be (out := bytesV [UInt8.ofNat (97 + x.key.toNat % 4)]) rfl rfl rfl rfl (by decide) (by decide) rfl rfl fun eb => ?_
 refine H.convBS (bs := [UInt8.ofNat (97 + x.key.toNat % 4)]) rfl rfl (Src.slice (Rd.ofRow (.here _ _ _)) rfl) (fun h => by cases h) rfl ?_
 refine gS ?_
 refine H.rem (z := ((x.time.toNat % 10 : Nat) : Int)) rfl rfl rfl (by decide) (zak (b := 10) rfl) rfl ?_
 refine ge ?_
 refine H.know (d := 22) (u := .int .u8 ((UInt8.ofNat (48 + x.time.toNat % 10)).toNat : Nat)) rfl (by rw [byte_toNat (by omega)]; rfl) ?_
 refine H.Be (out := bytesV [UInt8.ofNat (48 + x.time.toNat % 10)]) rfl rfl rfl rfl (by decide) (by decide) rfl rfl fun eb2 => ?_
 refine H.convBS (bs := [UInt8.ofNat (48 + x.time.toNat % 10)]) rfl rfl (Src.slice (Rd.ofRow (.here _ _ _)) rfl) (fun h => by cases h) rfl ?_
 refine H.Ab (.here _ _) ?_
 refine H.Ab (.here _ _) ?_
 repeat (first | (refine H.Bc (t := 49) (out := x.req0.vals) rfl rfl rfl (by kernel_rfl) rfl ?_) | ((apply H.Bc); (iterate 5 exact rfl)))
 refine H.Am (ls := Req.zero.vals) rfl rfl rfl fun rb => ?_
 refine H.Ak (ls := Req.zero.vals) (vs := x.req0.vals) (ls' := x.req0.vals) rfl rfl rfl (zae rfl) rfl rfl (Nat.le_refl 40) (.here _ _ _) ?_
 refine gK ?_
 unfold A15.req
 cases hno : x.no with
 | true =>
  refine ge ?_
  refine H.Ag (ls := x.req0.vals) rfl rfl rfl (Rd.ofRow (.here _ _ _)) rfl rfl ?_
  refine H.Ak (ls := Req.zero.vals) (vs := x.req0.vals) (ls' := x.req0.vals) rfl rfl rfl (zae rfl) rfl rfl (Nat.le_refl 40) (.there _ (.here _ _ _)) ?_
  refine gX ?_
  refine H.Ab (.here _ _) ?_
  refine H.Ab (x := row xb _ _) (by repeat constructor) ?_
  exact H.Bd (ls := x.req0.vals) rfl rfl rfl (Rd.ofRow (.here _ _ _)) rfl (fun _ s => s.drop (.here _ _)) ⟨rfl, rfl, rfl⟩
 | false =>
  refine gR ?_
  refine H.Ag (ls := x.req0.vals) rfl rfl rfl (Rd.ofRow (.here _ _ _)) rfl rfl ?_
  refine H.Ah rfl rfl rfl (hsg _) ?_
  refine H.Ak (ls := Req.zero.vals) (vs := x.req0.signed.vals) (ls' := x.req0.signed.vals) rfl rfl rfl (zae rfl) rfl rfl (Nat.le_refl 40) (.there _ (.here _ _ _)) ?_
  refine gX ?_
  refine H.Ab (.here _ _) ?_
  refine H.Ab (x := row xb _ _) (by repeat constructor) ?_
  exact H.Bd (ls := x.req0.signed.vals) rfl rfl rfl (Rd.ofRow (.here _ _ _)) rfl (fun _ s => s.drop (.here _ _)) ⟨rfl, rfl, rfl⟩
end
def A15.Has (f : Frag) (x : A15) : Prop := BAt f x.qp x.q
theorem qAcc_stop {row : Nat → List (Int × Int)} {half : Nat} : ∀ {k m : Nat}, k ≤ m → half < (qAcc row half k).length → qAcc row half m = qAcc row half k
 | k, 0, h, _ => by
  have : k = 0 := by omega
  rw [this]
 | k, m + 1, h, hl => by
  by_cases e : k = m + 1
  ·rw [e]
  ·have ih := qAcc_stop (m := m) (by omega) hl
   show (if (qAcc row half m).length ≤ half then qAcc row half m ++ row m else qAcc row half m) = _
   rw [ih, if_neg (by omega)]
def qPart (ch : Nat → List (Int × Int)) (kv : Nat → Int) (v : Int) (raw : Bool) (r i : Nat) : List (Int × Int) := (((ch r).take i).filter fun c => decide (c.1 = v) && decide (c.2 ≤ kv r) && !raw).map fun c => (((r + 1 : Nat) : Int), c.2)
theorem qPart_all (ch : Nat → List (Int × Int)) (kv : Nat → Int) (v : Int) (raw : Bool) (r : Nat) : qPart ch kv v raw r (ch r).length = qRow ch kv v raw r := by unfold qPart qRow; rw [List.take_length]
theorem qPart_next {ch : Nat → List (Int × Int)} {kv : Nat → Int} {v : Int} {raw : Bool} {r i : Nat} {c : Int × Int} (hc : (ch r)[i]? = some c) : qPart ch kv v raw r (i + 1) = qPart ch kv v raw r i ++ (if (decide (c.1 = v) && decide (c.2 ≤ kv r) && !raw) = true then [(((r + 1 : Nat) : Int), c.2)] else []) := by
 unfold qPart
 rw [filt_take hc, List.map_append]
 congr 1
 split <;> rfl
theorem qPart_len (ch : Nat → List (Int × Int)) (kv : Nat → Int) (v : Int) (raw : Bool) (r i : Nat) : (qPart ch kv v raw r i).length ≤ (ch r).length := by
 unfold qPart
 rw [List.length_map]
 refine Nat.le_trans (List.length_filter_le _ _) ?_
 rw [List.length_take]
 omega
section
variable (f : Frag) (F : List HP)
set_option maxRecDepth 20000 in
set_option maxHeartbeats 3200000 in
theorem q15_fn {fl : Frag} (hfl : Le fl f) {wb kb lb : Nat} {l : Lgs} {T : Nat} (hL : LI l T) (hT : T ≤ 1000) {ap : Option Addr} {m ac n o : Nat} (hnn : l.n = n) (ho : o < n) {kv : Nat → Nat → Int} {x : A15} (hx : x.Has f) (hq20 : x.q.length ≤ 20) (v : Int) :
  Fn Tryz.prog 98 [.pointer (some ⟨wb, 0, none⟩), .int .i64 ((o + 1 : Nat) : Int), .agg x.vals.toArray, .int .u64 v] f (logsH fl lb l :: row wb 37 (w15C kb n ap m ac lb) :: row kb 44 (kRow n kv) :: F)
   (RetE (fun i : Option Addr × Nat => .slice i.1 (x.qs n l.ch (kv o) v).length i.2) f (fun i => slc i.1 (x.qs n l.ch (kv o) v).length i.2 88 2 ((x.qs n l.ch (kv o) v).flatMap pairV) :: logsH fl lb l :: row wb 37 (w15C kb n ap m ac lb) :: row kb 44 (kRow n kv) :: F)) := by
 refine Fn.unpack fun i0 hi => ?_
 obtain ⟨V, vp, vc, pp, pc, cp, cc, pb, cs⟩ := i0
 have hn := hL.n3
 obtain ⟨acc, hacc⟩ : ∃ acc : Nat → List (Int × Int), acc = qAcc (qRow l.ch (kv o) v x.raw) ((n - 1) / 2) := ⟨_, rfl⟩
 have hal : ∀ k, (acc k).length ≤ (n - 1) / 2 + T := fun k => by rw [hacc]; exact qAcc_len (fun r => Nat.le_trans (qRow_len _ _ _ _ r) (hL.cl r)) k
 show Fn _ _ _ f (row lb 148 (lgC l.n l.known vp V.length vc pp pc cp cc) :: slc vp V.length vc 143 4 (V.flatMap VV.vals) :: lst (V.map VV.own) :: fam (fun r => pstH (pb r) (l.past r)) l.n :: slc cp l.n cc 184 1 (chRow l cs) :: fam (chFam l cs) l.n :: row wb 37 (w15C kb n ap m ac lb) :: row kb 44 (kRow n kv) :: F) _
 refine Fn.enter Tryz.func98 rfl Tryz.ntmps98 rfl (L := [(0, _), (1, _), (2, _), (3, _)]) ⟨rfl, rfl, rfl, rfl, trivial⟩ fun base => ?_
 refine gA ?_
 refine H.box (ls := x.vals) rfl rfl rfl rfl fun xb => ?_
 refine gY ?_
 refine H.slc0 88 2 ?_
 refine H.Aa (x := fam (chFam l cs) _) (by repeat constructor) ?_
 refine H.Aa (x := slc cp _ cc _ _ _) (by repeat constructor) ?_
 refine H.Aa (x := fam (fun r => pstH _ _) _) (by repeat constructor) ?_
 refine H.Aa (x := lst (V.map VV.own)) (by repeat constructor) ?_
 refine H.Aa (x := slc vp _ vc _ _ _) (by repeat constructor) ?_
 refine H.Aa (x := row lb _ _) (by repeat constructor) ?_
 refine H.Aa (x := row kb _ _) (by repeat constructor) ?_
 refine H.Aa (x := row wb _ _) (by repeat constructor) ?_
 refine H.Aa (x := slc none _ _ _ _ _) (by repeat constructor) ?_
 refine H.Aa (x := row xb _ _) (by repeat constructor) ?_
 refine H.Aw (ι := Nat × Option Addr × Nat) (fun s => [(11, .int .i64 ((s.1 + 1 : Nat) : Int)), (9, .slice s.2.1 (acc s.1).length s.2.2), (10, .int .i64 (n : Int)), (0, .pointer (some ⟨wb, 0, none⟩)), (1, .int .i64 ((o + 1 : Nat) : Int)), (3, .int .u64 v), (6, .pointer (some ⟨xb, 0, none⟩))]) (fun _ => f)
  (fun s => row xb 98 x.vals :: slc s.2.1 (acc s.1).length s.2.2 88 2 ((acc s.1).flatMap pairV) :: row wb 37 (w15C kb n ap m ac lb) :: row kb 44 (kRow n kv) :: row lb 148 (lgC l.n l.known vp V.length vc pp pc cp cc) :: slc vp V.length vc 143 4 (V.flatMap VV.vals) :: lst (V.map VV.own) :: fam (fun r => pstH (pb r) (l.past r)) l.n :: slc cp l.n cc 184 1 (chRow l cs) :: fam (chFam l cs) l.n :: F)
  (fun s => s.1 ≤ n) (fun s => n - s.1) (0, none, 0) (Nat.zero_le _) ⟨rfl, by rw [hacc]; rfl, rfl, rfl, rfl, rfl, rfl, trivial⟩ rfl (by rw [hacc]; rfl) fun s hs => ?_
 obtain ⟨r, qp, qc⟩ := s
 have hrn : r ≤ n := hs
 have halr := hal r
 show H _ _ _ [(11, .int .i64 ((r + 1 : Nat) : Int)), (9, .slice qp (acc r).length qc), _, _, _, _, _] f (_ :: slc qp (acc r).length qc _ 2 ((acc r).flatMap pairV) :: _ :: _ :: _ :: _ :: _ :: _ :: _ :: _ :: F) _
 have hquo : (((n : Int) - 1).tdiv 2) = (((n - 1) / 2 : Nat) : Int) := by
  rw [show ((n : Int) - 1) = ((n - 1 : Nat) : Int) by omega]
  exact (Int.ofNat_tdiv (n - 1) 2).symm
 by_cases hgo : r < n ∧ (acc r).length ≤ (n - 1) / 2
 ·obtain ⟨hr, hlen⟩ := hgo
  have hrl : r < l.n := by omega
  have hcl := hL.cl r
  have hr11 : r < 11 := by omega
  refine H.Bp (p := cp) (n0 := l.n) (c := cc) (T := 184) (sz := 1) (xs := chRow l cs) (by repeat constructor) (by omega) fun cb hcb => ?_
  have hCd : ∀ {A A' : List HP}, At A (slc cp l.n cc 184 1 (chRow l cs)) A' (slc cp l.n cc 184 1 (chRow l cs)) → Rd f A cb 0 (chRow l cs) := fun {A A'} h => Rd.ofSlc (n := l.n) (c := cc) (T := 184) (sz := 1) (by rw [← hcb]; exact h) (by omega)
  have hsucc : acc (r + 1) = acc r ++ qRow l.ch (kv o) v x.raw r := by
   rw [hacc] at hlen ⊢
   show (if _ then _ else _) = _
   rw [if_pos hlen]
  refine gc ?_
  refine H.quo (z := (((n - 1) / 2 : Nat) : Int)) rfl rfl rfl (by decide) (by rw [hquo, wr_i64 (by omega)]) rfl ?_
  refine gc ?_
  refine H.Ap (b := cb) (off := 0) (i := r) rfl (by rw [← hcb]; rfl) rfl (by omega) hrl rfl ?_
  refine H.Ad rfl rfl rfl (by rw [Nat.zero_add, Nat.mul_one]; exact Rd1.at0 (hCd (by repeat constructor)) (rngV_get _ hrl)) rfl ?_
  refine gX ?_
  refine H.Aa (x := fam (chFam l cs) _) (by repeat constructor) ?_
  refine H.famPull hrl ?_
  refine H.Aa (x := fam (updF _ _ _) _) (by repeat constructor) ?_
  refine H.Aa (x := slc cp _ cc _ _ _) (by repeat constructor) ?_
  refine H.Aa (x := fam (fun r => pstH _ _) _) (by repeat constructor) ?_
  refine H.Aa (x := lst (V.map VV.own)) (by repeat constructor) ?_
  refine H.Aa (x := slc vp _ vc _ _ _) (by repeat constructor) ?_
  refine H.Aa (x := row lb _ _) (by repeat constructor) ?_
  refine H.Aa (x := row kb _ _) (by repeat constructor) ?_
  refine H.Aa (x := row wb _ _) (by repeat constructor) ?_
  refine H.Aa (x := slc qp _ qc _ _ _) (by repeat constructor) ?_
  refine H.Aa (x := chFam l cs r) (by repeat constructor) ?_
  refine H.Aa (x := row xb _ _) (by repeat constructor) ?_
  obtain ⟨pt, hpt⟩ : ∃ pt : Nat → List (Int × Int), pt = fun i => acc r ++ qPart l.ch (kv o) v x.raw r i := ⟨_, rfl⟩
  have hp0 : pt 0 = acc r := by rw [hpt]; show acc r ++ [] = _; rw [List.append_nil]
  have hpl : ∀ i, (pt i).length ≤ (n - 1) / 2 + T + T := fun i => by
   rw [hpt]
   show (acc r ++ _).length ≤ _
   rw [List.length_append]
   have := qPart_len l.ch (kv o) v x.raw r i
   omega
  refine H.Aw (ι := Nat × Option Addr × Nat) (fun s => [(13, .int .i64 (s.1 : Int)), (12, .slice (cs r).1 (l.ch r).length (cs r).2), (9, .slice s.2.1 (pt s.1).length s.2.2), (11, .int .i64 ((r + 1 : Nat) : Int)), (10, .int .i64 (n : Int)), (0, .pointer (some ⟨wb, 0, none⟩)), (1, .int .i64 ((o + 1 : Nat) : Int)), (3, .int .u64 v), (6, .pointer (some ⟨xb, 0, none⟩))]) (fun _ => f)
   (fun s => row xb 98 x.vals :: chFam l cs r :: slc s.2.1 (pt s.1).length s.2.2 88 2 ((pt s.1).flatMap pairV) :: row wb 37 (w15C kb n ap m ac lb) :: row kb 44 (kRow n kv) :: row lb 148 (lgC l.n l.known vp V.length vc pp pc cp cc) :: slc vp V.length vc 143 4 (V.flatMap VV.vals) :: lst (V.map VV.own) :: fam (fun r => pstH (pb r) (l.past r)) l.n :: slc cp l.n cc 184 1 (chRow l cs) :: fam (updF (chFam l cs) r emp) l.n :: F)
   (fun s => s.1 ≤ (l.ch r).length) (fun s => (l.ch r).length - s.1) (0, qp, qc) (Nat.zero_le _) ⟨rfl, rfl, by rw [hp0]; rfl, rfl, rfl, rfl, rfl, rfl, rfl, trivial⟩ rfl (by rw [hp0]) fun s hs => ?_
  obtain ⟨i, qp, qc⟩ := s
  have hi2 : i ≤ (l.ch r).length := hs
  have hpli := hpl i
  show H _ _ _ [(13, .int .i64 (i : Int)), _, (9, .slice qp (pt i).length qc), _, _, _, _, _, _] f (_ :: _ :: slc qp (pt i).length qc _ 2 ((pt i).flatMap pairV) :: _ :: _ :: _ :: _ :: _ :: _ :: _ :: _ :: F) _
  by_cases hlt : i < (l.ch r).length
  ·obtain ⟨y, hy⟩ : ∃ y, (l.ch r)[i]? = some y := ⟨_, List.getElem?_eq_getElem hlt⟩
   refine H.Bp (p := (cs r).1) (n0 := (l.ch r).length) (c := (cs r).2) (T := 186) (sz := 2) (xs := (l.ch r).flatMap chV) (.there _ (.here _ _ _)) (by omega) fun sb hp => ?_
   have rd : ∀ {G0 : HP} {G : List HP}, Rd f (G0 :: chFam l cs r :: G) sb (0 + i * 2) (chV y) := fun {G0 G} => by
    rw [Nat.zero_add]; exact Rd.slcElem (vals := chV) (xs := l.ch r) (n := (l.ch r).length) (c := (cs r).2) (T := 186) chV_len (by decide) (by rw [← hp]; exact .there _ (.here _ _ _)) hy
   have hnx : pt (i + 1) = pt i ++ (if (decide (y.1 = v) && decide (y.2 ≤ kv o r) && !x.raw) = true then [(((r + 1 : Nat) : Int), y.2)] else []) := by
    rw [hpt]
    show acc r ++ qPart _ _ _ _ _ (i + 1) = acc r ++ qPart _ _ _ _ _ i ++ _
    rw [qPart_next hy, List.append_assoc]
   refine gI ?_
   refine H.Bg (by kernel_rfl) (by decide +kernel) (by repeat (first | exact zab | refine zaa ?_ | refine zac ?_ | refine zad ?_)) ?_
   refine gB ?_
   refine HQ.Ap (b := sb) (off := 0) (i := i) rfl (by rw [← hp]; rfl) rfl rfl hlt rfl ?_
   refine gC ?_
   refine HQ.Ad rfl rfl rfl (Rd1.of (i := 0) rd rfl) rfl ?_
   refine gW ?_
   by_cases h1 : y.1 = v
   ·skip
    refine gW ?_
    refine HQ.Ap (b := sb) (off := 0) (i := i) rfl (by rw [← hp]; rfl) rfl rfl hlt rfl ?_
    refine gC ?_
    refine HQ.Ad rfl rfl rfl (Rd1.of (i := 1) rd rfl) rfl ?_
    refine gH ?_
    refine HQ.Ap (b := kb) (off := 0) (i := o) rfl rfl rfl (by omega) ho rfl ?_
    refine HQ.Ba (i := r) rfl rfl rfl (by omega) hr11 rfl ?_
    refine HQ.Ad rfl rfl rfl (by rw [Nat.zero_add, Nat.mul_one]; exact Rd1.of (Rd.kRow (Rd.ofRow (by repeat constructor)) ho) (zas (kv o) hr11)) rfl ?_
    refine gW ?_
    by_cases h2 : y.2 ≤ kv o r
    ·by_cases hraw : x.raw = true
     ·have hr1 : (!x.raw) = false := by rw [hraw]; rfl
      rw [hraw, Bool.not_true, Bool.and_false, if_neg (by decide), List.append_nil] at hnx
      refine gW ?_
      refine gG ?_
      refine H.Aa (x := slc qp _ qc _ _ _) (by repeat constructor) ?_
      refine H.Aa (x := chFam l cs r) (by repeat constructor) ?_
      refine H.Aa (x := row xb _ _) (by repeat constructor) ?_
      refine H.Ao (i + 1, qp, qc) (by show i + 1 ≤ (l.ch r).length; omega) (by show (l.ch r).length - (i + 1) < (l.ch r).length - i; omega) ⟨rfl, rfl, ?_, rfl, rfl, rfl, rfl, rfl, rfl, trivial⟩ rfl ?_
      ·show some (Value.slice qp _ qc) = some (Value.slice qp _ qc)
       rw [hnx]
      ·show _ :: _ :: slc qp _ qc _ 2 _ :: _ = _ :: _ :: slc qp _ qc _ 2 _ :: _
       rw [hnx]
     ·have hraw : x.raw = false := by
       cases e : x.raw with
       | true => exact absurd e hraw
       | false => rfl
      have hr1 : (!x.raw) = true := by rw [hraw]; rfl
      rw [hraw, decide_eq_true h1, decide_eq_true h2, if_pos (by decide)] at hnx
      refine gW ?_
      refine gU ?_
      refine H.Ap (b := sb) (off := 0) (i := i) rfl (by rw [← hp]; rfl) rfl rfl hlt rfl ?_
      refine gS ?_
      refine H.Ad rfl rfl rfl (Rd1.of (i := 1) rd rfl) rfl ?_
      refine gV ?_
      refine H.Be (out := pairV (((r + 1 : Nat) : Int), y.2)) rfl rfl rfl rfl (by decide) (by decide) rfl rfl fun eb => ?_
      refine H.Bf (sz := 2) (p := qp) (n0 := (pt i).length) (c := qc) (xs := (pt i).flatMap pairV) (m := 1) (news := pairV (((r + 1 : Nat) : Int), y.2)) rfl rfl rfl rfl rfl (fun p' c' => (by repeat constructor)) (Src.slice (Rd.ofRow (by repeat constructor)) rfl) (zae rfl) rfl (by omega) (by omega) fun p2 c2 => ?_
      refine ge ?_
      refine H.Ab (x := row eb _ _) (by repeat constructor) ?_
      refine H.Ao (i + 1, p2, c2) (by show i + 1 ≤ (l.ch r).length; omega) (by show (l.ch r).length - (i + 1) < (l.ch r).length - i; omega) ⟨rfl, rfl, ?_, rfl, rfl, rfl, rfl, rfl, rfl, trivial⟩ rfl ?_
      ·show some (Value.slice p2 ((pt i).length + 1) c2) = some (Value.slice p2 (pt (i + 1)).length c2)
       rw [hnx, List.length_append]
       rfl
      ·show _ :: _ :: slc p2 ((pt i).length + 1) c2 _ 2 _ :: _ = _ :: _ :: slc p2 (pt (i + 1)).length c2 _ 2 ((pt (i + 1)).flatMap pairV) :: _
       rw [hnx, List.length_append, List.flatMap_append]
       simp
    ·rw [decide_eq_false h2, Bool.and_false, Bool.false_and, if_neg (by decide), List.append_nil] at hnx
     refine gW ?_
     refine gM ?_
     refine H.Aa (x := slc qp _ qc _ _ _) (by repeat constructor) ?_
     refine H.Aa (x := chFam l cs r) (by repeat constructor) ?_
     refine H.Aa (x := row xb _ _) (by repeat constructor) ?_
     refine H.Ao (i + 1, qp, qc) (by show i + 1 ≤ (l.ch r).length; omega) (by show (l.ch r).length - (i + 1) < (l.ch r).length - i; omega) ⟨rfl, rfl, ?_, rfl, rfl, rfl, rfl, rfl, rfl, trivial⟩ rfl ?_
     ·show some (Value.slice qp _ qc) = some (Value.slice qp _ qc)
      rw [hnx]
     ·show _ :: _ :: slc qp _ qc _ 2 _ :: _ = _ :: _ :: slc qp _ qc _ 2 _ :: _
      rw [hnx]
   ·rw [decide_eq_false h1, Bool.false_and, Bool.false_and, if_neg (by decide), List.append_nil] at hnx
    refine gW ?_
    refine gM ?_
    refine H.Aa (x := slc qp _ qc _ _ _) (by repeat constructor) ?_
    refine H.Aa (x := chFam l cs r) (by repeat constructor) ?_
    refine H.Aa (x := row xb _ _) (by repeat constructor) ?_
    refine H.Ao (i + 1, qp, qc) (by show i + 1 ≤ (l.ch r).length; omega) (by show (l.ch r).length - (i + 1) < (l.ch r).length - i; omega) ⟨rfl, rfl, ?_, rfl, rfl, rfl, rfl, rfl, rfl, trivial⟩ rfl ?_
    ·show some (Value.slice qp _ qc) = some (Value.slice qp _ qc)
     rw [hnx]
    ·show _ :: _ :: slc qp _ qc _ 2 _ :: _ = _ :: _ :: slc qp _ qc _ 2 _ :: _
     rw [hnx]
  ·have e : i = (l.ch r).length := by omega
   subst e
   have hpe : pt (l.ch r).length = acc (r + 1) := by rw [hsucc, hpt, ← qPart_all]
   rw [hpe]
   refine gN ?_
   refine H.Aa (x := fam (updF _ _ _) _) (by repeat constructor) ?_
   refine H.Aa (x := chFam l cs r) (by repeat constructor) ?_
   refine H.famBack (g := chFam l cs) hrl ?_
   refine H.Aa (x := fam (chFam l cs) _) (by repeat constructor) ?_
   refine H.Aa (x := slc cp _ cc _ _ _) (by repeat constructor) ?_
   refine H.Aa (x := fam (fun r => pstH _ _) _) (by repeat constructor) ?_
   refine H.Aa (x := lst (V.map VV.own)) (by repeat constructor) ?_
   refine H.Aa (x := slc vp _ vc _ _ _) (by repeat constructor) ?_
   refine H.Aa (x := row lb _ _) (by repeat constructor) ?_
   refine H.Aa (x := row kb _ _) (by repeat constructor) ?_
   refine H.Aa (x := row wb _ _) (by repeat constructor) ?_
   refine H.Aa (x := slc qp _ qc _ _ _) (by repeat constructor) ?_
   refine H.Aa (x := row xb _ _) (by repeat constructor) ?_
   exact H.Ao (r + 1, qp, qc) (by show r + 1 ≤ n; omega) (by show n - (r + 1) < n - r; omega) ⟨rfl, rfl, rfl, rfl, rfl, rfl, rfl, trivial⟩ rfl rfl
 ·have hfin : acc n = acc r := by
   by_cases e : r = n
   ·rw [e]
   ·rw [hacc]
    exact qAcc_stop hrn (by rw [← hacc]; omega)
  have hqe : qAcc (qRow l.ch (kv o) v x.raw) ((n - 1) / 2) n = acc r := by rw [← hfin, hacc]
  by_cases hr : r < n
  ·have hlen : (n - 1) / 2 < (acc r).length := by omega
   refine gc ?_
   refine H.quo (z := (((n - 1) / 2 : Nat) : Int)) rfl rfl rfl (by decide) (by rw [hquo, wr_i64 (by omega)]) rfl ?_
   have h0 : 0 < (acc r).length := by omega
   refine gU ?_
   refine H.Ab (x := row xb _ _) (by repeat constructor) ?_
   refine H.Aa (x := fam (chFam l cs) _) (by repeat constructor) ?_
   refine H.Aa (x := slc cp _ cc _ _ _) (by repeat constructor) ?_
   refine H.Aa (x := fam (fun r => pstH _ _) _) (by repeat constructor) ?_
   refine H.Aa (x := lst (V.map VV.own)) (by repeat constructor) ?_
   refine H.Aa (x := slc vp _ vc _ _ _) (by repeat constructor) ?_
   refine H.Aa (x := row lb _ _) (by repeat constructor) ?_
   refine H.imp (zah ⟨V, vp, vc, pp, pc, cp, cc, pb, cs⟩ hi) ?_
   refine H.Aa (x := slc qp _ qc _ _ _) (by repeat constructor) ?_
   have hqs : x.qs n l.ch (kv o) v = acc r := by unfold A15.qs; rw [hqe, if_pos (.inl h0)]
   rw [hqs]
   exact H.Ac rfl rfl (fun _ h => h) ⟨(qp, qc), rfl, rfl, rfl⟩
  ·by_cases h0 : 0 < (acc r).length
   ·skip
    refine gT ?_
    refine H.Ab (x := row xb _ _) (by repeat constructor) ?_
    refine H.Aa (x := fam (chFam l cs) _) (by repeat constructor) ?_
    refine H.Aa (x := slc cp _ cc _ _ _) (by repeat constructor) ?_
    refine H.Aa (x := fam (fun r => pstH _ _) _) (by repeat constructor) ?_
    refine H.Aa (x := lst (V.map VV.own)) (by repeat constructor) ?_
    refine H.Aa (x := slc vp _ vc _ _ _) (by repeat constructor) ?_
    refine H.Aa (x := row lb _ _) (by repeat constructor) ?_
    refine H.imp (zah ⟨V, vp, vc, pp, pc, cp, cc, pb, cs⟩ hi) ?_
    refine H.Aa (x := slc qp _ qc _ _ _) (by repeat constructor) ?_
    have hqs : x.qs n l.ch (kv o) v = acc r := by unfold A15.qs; rw [hqe, if_pos (.inl h0)]
    rw [hqs]
    exact H.Ac rfl rfl (fun _ h => h) ⟨(qp, qc), rfl, rfl, rfl⟩
   ·by_cases hq0 : x.q.length = 0
    ·skip
     refine gJ ?_
     refine H.Ab (x := row xb _ _) (by repeat constructor) ?_
     refine H.Aa (x := fam (chFam l cs) _) (by repeat constructor) ?_
     refine H.Aa (x := slc cp _ cc _ _ _) (by repeat constructor) ?_
     refine H.Aa (x := fam (fun r => pstH _ _) _) (by repeat constructor) ?_
     refine H.Aa (x := lst (V.map VV.own)) (by repeat constructor) ?_
     refine H.Aa (x := slc vp _ vc _ _ _) (by repeat constructor) ?_
     refine H.Aa (x := row lb _ _) (by repeat constructor) ?_
     refine H.imp (zah ⟨V, vp, vc, pp, pc, cp, cc, pb, cs⟩ hi) ?_
     refine H.Aa (x := slc qp _ qc _ _ _) (by repeat constructor) ?_
     have hqs : x.qs n l.ch (kv o) v = acc r := by unfold A15.qs; rw [if_pos (.inr hq0), hqe]
     rw [hqs]
     exact H.Ac rfl rfl (fun _ h => h) ⟨(qp, qc), rfl, rfl, rfl⟩
    ·have hnil : acc r = [] := List.eq_nil_of_length_eq_zero (by omega)
     have hqs : x.qs n l.ch (kv o) v = qNum x.q (if n ≤ x.q.length then n else x.q.length) := by
      unfold A15.qs
      rw [hqe, if_neg (by rintro (h | h); exact h0 h; exact hq0 h)]
     rw [hqs, hnil]
     clear hqs hqe hfin
     refine gJ ?_
     rcases hx with e0 | ⟨qb, qoff, qcs, qT, qfr, hqp, hqfb, hqcs⟩
     ·rw [e0] at hq0; exact absurd rfl hq0
     ·have hrdo : ∀ A, Rd f A qb qoff (bytesV x.q) := fun A => Rd.imm hqfb fun j hj => by rw [zaf] at hj; exact hqcs j hj
      refine H.Aw (ι := Nat × Option Addr × Nat) (fun s => [(14, .int .i64 ((s.1 + 1 : Nat) : Int)), (9, .slice s.2.1 s.1 s.2.2), (10, .int .i64 (n : Int)), (6, .pointer (some ⟨xb, 0, none⟩))]) (fun _ => f)
       (fun s => row xb 98 x.vals :: slc s.2.1 s.1 s.2.2 88 2 ((qNum x.q s.1).flatMap pairV) :: row wb 37 (w15C kb n ap m ac lb) :: row kb 44 (kRow n kv) :: row lb 148 (lgC l.n l.known vp V.length vc pp pc cp cc) :: slc vp V.length vc 143 4 (V.flatMap VV.vals) :: lst (V.map VV.own) :: fam (fun r => pstH (pb r) (l.past r)) l.n :: slc cp l.n cc 184 1 (chRow l cs) :: fam (chFam l cs) l.n :: F)
       (fun s => s.1 ≤ n ∧ s.1 ≤ x.q.length) (fun s => n - s.1) (0, qp, qc) ⟨Nat.zero_le _, Nat.zero_le _⟩ ⟨rfl, rfl, rfl, rfl, trivial⟩ rfl rfl fun s hs => ?_
      obtain ⟨j, qp, qc⟩ := s
      obtain ⟨hj1, hj2⟩ : j ≤ n ∧ j ≤ x.q.length := hs
      show H _ _ _ [(14, .int .i64 ((j + 1 : Nat) : Int)), (9, .slice qp j qc), _, _] f (_ :: slc qp j qc _ 2 ((qNum x.q j).flatMap pairV) :: _ :: _ :: _ :: _ :: _ :: _ :: _ :: _ :: F) _
      by_cases hgo : j < n ∧ j < x.q.length
      ·obtain ⟨hjn, hjq⟩ := hgo
       obtain ⟨w8, hw8⟩ : ∃ w8, x.q[j]? = some w8 := ⟨_, List.getElem?_eq_getElem hjq⟩
       have hby : (bytesV x.q)[j]? = some (.int .u8 (w8.toNat : Nat)) := by unfold bytesV; rw [List.getElem?_map, hw8]; rfl
       have hw8l := w8.toNat_lt
       have hm8 : ((w8.toNat % 8 : Nat) : Int) ≤ 7 := by omega
       have hnx : qNum x.q (j + 1) = qNum x.q j ++ [(((j + 1 : Nat) : Int), 1 + ((w8.toNat % 8 : Nat) : Int))] := by
        show qNum x.q j ++ [(_, 1 + (((x.q.getD j 0).toNat % 8 : Nat) : Int))] = _
        rw [List.getD_eq_getElem?_getD, hw8]
        rfl
       refine gc ?_
       refine H.index1 (b := qb) (off := qoff) (i := j) rfl (by rw [← hqp]; rfl) rfl (by omega) hjq rfl ?_
       refine H.Ad rfl rfl rfl (Rd1.of (hrdo _) hby) rfl ?_
       refine H.rem (z := ((w8.toNat % 8 : Nat) : Int)) rfl rfl rfl (by decide) (zak (b := 8) rfl) rfl ?_
       refine gc ?_
       refine H.Be (out := pairV (((j + 1 : Nat) : Int), 1 + ((w8.toNat % 8 : Nat) : Int))) rfl rfl rfl rfl (by decide) (by decide) rfl rfl fun eb => ?_
       refine H.Bf (sz := 2) (p := qp) (n0 := j) (c := qc) (xs := (qNum x.q j).flatMap pairV) (m := 1) (news := pairV (((j + 1 : Nat) : Int), 1 + ((w8.toNat % 8 : Nat) : Int))) rfl rfl rfl rfl rfl (fun p' c' => (by repeat constructor)) (Src.slice (Rd.ofRow (by repeat constructor)) rfl) (zae rfl) rfl (by omega) (by omega) fun p2 c2 => ?_
       refine ge ?_
       refine H.Ab (x := row eb _ _) (by repeat constructor) ?_
       refine H.Ao (j + 1, p2, c2) ⟨by show j + 1 ≤ n; omega, by show j + 1 ≤ x.q.length; omega⟩ (by show n - (j + 1) < n - j; omega) ⟨rfl, rfl, rfl, rfl, trivial⟩ rfl ?_
       show _ :: slc p2 (j + 1) c2 _ 2 _ :: _ = _ :: slc p2 (j + 1) c2 _ 2 ((qNum x.q (j + 1)).flatMap pairV) :: _
       rw [hnx, List.flatMap_append]
       simp
      ·have hje : (if n ≤ x.q.length then n else x.q.length) = j := by split <;> omega
       rw [hje, qNum_len]
       by_cases hjn : j < n
       ·skip
        refine gc ?_
        refine H.Ab (x := row xb _ _) (by repeat constructor) ?_
        refine H.Aa (x := fam (chFam l cs) _) (by repeat constructor) ?_
        refine H.Aa (x := slc cp _ cc _ _ _) (by repeat constructor) ?_
        refine H.Aa (x := fam (fun r => pstH _ _) _) (by repeat constructor) ?_
        refine H.Aa (x := lst (V.map VV.own)) (by repeat constructor) ?_
        refine H.Aa (x := slc vp _ vc _ _ _) (by repeat constructor) ?_
        refine H.Aa (x := row lb _ _) (by repeat constructor) ?_
        refine H.imp (zah ⟨V, vp, vc, pp, pc, cp, cc, pb, cs⟩ hi) ?_
        refine H.Aa (x := slc qp _ qc _ _ _) (by repeat constructor) ?_
        exact H.Ac rfl rfl (fun _ h => h) ⟨(qp, qc), rfl, rfl, rfl⟩
       ·skip
        refine gT ?_
        refine H.Ab (x := row xb _ _) (by repeat constructor) ?_
        refine H.Aa (x := fam (chFam l cs) _) (by repeat constructor) ?_
        refine H.Aa (x := slc cp _ cc _ _ _) (by repeat constructor) ?_
        refine H.Aa (x := fam (fun r => pstH _ _) _) (by repeat constructor) ?_
        refine H.Aa (x := lst (V.map VV.own)) (by repeat constructor) ?_
        refine H.Aa (x := slc vp _ vc _ _ _) (by repeat constructor) ?_
        refine H.Aa (x := row lb _ _) (by repeat constructor) ?_
        refine H.imp (zah ⟨V, vp, vc, pp, pc, cp, cc, pb, cs⟩ hi) ?_
        refine H.Aa (x := slc qp _ qc _ _ _) (by repeat constructor) ?_
        exact H.Ac rfl rfl (fun _ h => h) ⟨(qp, qc), rfl, rfl, rfl⟩
end
def bodW (k : UInt8) (v kk : Int) : Bod := ⟨k, v, kk, Req.zero, [], noTag⟩
section
variable (f : Frag) (F : List HP)
set_option maxRecDepth 20000 in
set_option maxHeartbeats 3200000 in
theorem body15_fn {fl : Frag} (hfl : Le fl f) {wb kb lb : Nat} {W : W15} {n T : Nat} (hW : WI n W T) (hT : T ≤ 1000) {ap : Option Addr} {m ac o : Nat} (ho : o < n) {x : A15} (hx : x.Has f) (hq20 : x.q.length ≤ 20) :
  Fn Tryz.prog 67 [.pointer (some ⟨wb, 0, none⟩), .int .i64 ((o + 1 : Nat) : Int), .agg x.vals.toArray] f (logsH fl lb W.l :: row wb 37 (w15C kb n ap m ac lb) :: row kb 44 (kRow n W.w.kv) :: F)
   (BodP f (logsH fl lb W.l :: row wb 37 (w15C kb n ap m ac lb) :: row kb 44 (kRow n W.w.kv) :: F) (x.bod W n o)) := by
 have hn := hW.l.n3
 have hnn := hW.n
 have hol : o < W.l.n := by omega
 have hwf := hW.l.wf o hol
 have hg0 := hwf.g0
 have hg1 := hW.l.gb o hol
 have hvm : ((x.view.toNat % 6 : Nat) : Int) ≤ 5 := by omega
 have hv2 : ((x.view.toNat % 2 : Nat) : Int) ≤ 1 := by omega
 have hkm : ((x.k.toNat % 6 : Nat) : Int) ≤ 5 := by omega
 have hgr := fun G => great_fn f G hfl (wb := wb) (kb := kb) (lb := lb) (l := W.l) hW.l (ap := ap) (m := m) (ac := ac) (n := n) hol
 have hcases : x.kind.toNat % 6 = 0 ∨ x.kind.toNat % 6 = 1 ∨ x.kind.toNat % 6 = 2 ∨ x.kind.toNat % 6 = 3 ∨ x.kind.toNat % 6 = 4 ∨ x.kind.toNat % 6 = 5 := by omega
 unfold A15.bod
 rcases hcases with h | h | h | h | h | h
 ·have hk6 : ((x.kind.toNat : Nat) : Int).tmod 6 = 0 := zak (b := 6) h
  rw [h]
  have hask := fun G => ask_fn f G x
  rcases Bool.eq_false_or_eq_true x.raw with hraw | hraw
  ·have hr1 : (!x.raw) = false := by rw [hraw]; rfl
   have hb : x.bodK W n o 0 = (⟨1, ((x.view.toNat % 6 : Nat) : Int), 0, x.req, [], noTag⟩ : Bod) := by simp [A15.bodK, hraw, Bod.zero]
   rw [hb]
   generalize x.req = rq at hask ⊢
   refine Fn.enter Tryz.func67 rfl Tryz.ntmps67 rfl (L := [(0, _), (1, _), (2, _)]) ⟨rfl, rfl, rfl, trivial⟩ fun base => ?_
   refine gA ?_
   refine H.box (ls := x.vals) rfl rfl rfl rfl fun xb => ?_
   refine H.Am (ls := (Bod.zero 0).vals none 0) rfl rfl rfl fun ob => ?_
   refine gK ?_
   refine H.rem rfl rfl rfl (by decide) hk6 rfl ?_
   refine gS ?_
   refine H.rem (z := ((x.view.toNat % 6 : Nat) : Int)) rfl rfl rfl (by decide) (zak (b := 6) rfl) rfl ?_
   refine gS ?_
   refine H.rem (z := ((x.k.toNat % 6 : Nat) : Int)) rfl rfl rfl (by decide) (zak (b := 6) rfl) rfl ?_
   repeat (first | (refine H.Bc (t := 52) (out := (bodW 1 ((x.view.toNat % 6 : Nat) : Int) (1 + ((x.k.toNat % 6 : Nat) : Int))).vals none 0) rfl rfl rfl (by kernel_rfl) rfl ?_) | ((first | (apply H.ar; (iterate 4 exact rfl)) | (apply H.Bh; (iterate 2 exact rfl))); (with_reducible apply wr_u64; omega); exact rfl))
   refine H.Am (ls := (Bod.zero 0).vals none 0) rfl rfl rfl fun bb => ?_
   refine H.Ak (ls := (Bod.zero 0).vals none 0) (vs := (bodW 1 ((x.view.toNat % 6 : Nat) : Int) (1 + ((x.k.toNat % 6 : Nat) : Int))).vals none 0) (ls' := (bodW 1 ((x.view.toNat % 6 : Nat) : Int) (1 + ((x.k.toNat % 6 : Nat) : Int))).vals none 0) rfl rfl rfl (zae rfl) rfl rfl (Nat.le_refl 76) (.here _ _ _) ?_
   refine gO ?_
   refine H.Aa (x := row wb _ _) (by repeat constructor) ?_
   refine H.Aa (x := logsH _ _ _) (by repeat constructor) ?_
   refine H.Ah rfl rfl rfl (hgr _) ?_
   refine H.Aa (x := row xb _ _) (by repeat constructor) ?_
   refine H.Aa (x := row bb _ _) (by repeat constructor) ?_
   refine gY ?_
   refine H.Ag (ls := x.vals) rfl rfl rfl (Rd.ofRow (.there _ (.here _ _ _))) rfl rfl ?_
   refine H.Ah rfl rfl rfl (hask _) ?_
   refine gS ?_
   refine H.Ak (ls := (bodW 1 ((x.view.toNat % 6 : Nat) : Int) 0).vals none 0) (vs := rq.vals) (ls' := (⟨1, ((x.view.toNat % 6 : Nat) : Int), 0, rq, [], noTag⟩ : Bod).vals none 0) rfl rfl rfl (zae rfl) rfl rfl (show 3 + 40 ≤ 76 by decide) (.here _ _ _) ?_
   refine gZ ?_
   refine H.Ag (ls := (⟨1, ((x.view.toNat % 6 : Nat) : Int), 0, rq, [], noTag⟩ : Bod).vals none 0) rfl rfl rfl (Rd.ofRow (.here _ _ _)) rfl rfl ?_
   refine H.Ak (ls := (Bod.zero 0).vals none 0) (vs := (⟨1, ((x.view.toNat % 6 : Nat) : Int), 0, rq, [], noTag⟩ : Bod).vals none 0) (ls' := (⟨1, ((x.view.toNat % 6 : Nat) : Int), 0, rq, [], noTag⟩ : Bod).vals none 0) rfl rfl rfl (zae rfl) rfl rfl (Nat.le_refl 76) (by repeat constructor) ?_
   refine gX ?_
   refine H.Ab (x := row bb _ _) (by repeat constructor) ?_
   refine H.Ab (x := row xb _ _) (by repeat constructor) ?_
   refine H.Aa (x := row kb _ _) (by repeat constructor) ?_
   refine H.Aa (x := row wb _ _) (by repeat constructor) ?_
   refine H.Aa (x := logsH _ _ _) (by repeat constructor) ?_
   refine H.Aa (x := row ob _ _) (by repeat constructor) ?_
   exact H.Bd (ls := (⟨1, ((x.view.toNat % 6 : Nat) : Int), 0, rq, [], noTag⟩ : Bod).vals none 0) rfl rfl rfl (Rd.ofRow (.here _ _ _)) rfl (fun _ s => s.drop (.here _ _)) ⟨nil0, none, 0, rfl, QAt.nil _ _, Dj.nil _, (un_nil _).symm, rfl⟩
  ·have hr1 : (!x.raw) = true := by rw [hraw]; rfl
   have hb : x.bodK W n o 0 = (⟨1, (W.l.past o).g, 0, x.req, [], noTag⟩ : Bod) := by simp [A15.bodK, hraw, Bod.zero]
   rw [hb]
   generalize x.req = rq at hask ⊢
   refine Fn.enter Tryz.func67 rfl Tryz.ntmps67 rfl (L := [(0, _), (1, _), (2, _)]) ⟨rfl, rfl, rfl, trivial⟩ fun base => ?_
   refine gA ?_
   refine H.box (ls := x.vals) rfl rfl rfl rfl fun xb => ?_
   refine H.Am (ls := (Bod.zero 0).vals none 0) rfl rfl rfl fun ob => ?_
   refine gK ?_
   refine H.rem rfl rfl rfl (by decide) hk6 rfl ?_
   refine gS ?_
   refine H.rem (z := ((x.view.toNat % 6 : Nat) : Int)) rfl rfl rfl (by decide) (zak (b := 6) rfl) rfl ?_
   refine gS ?_
   refine H.rem (z := ((x.k.toNat % 6 : Nat) : Int)) rfl rfl rfl (by decide) (zak (b := 6) rfl) rfl ?_
   repeat (first | (refine H.Bc (t := 52) (out := (bodW 1 ((x.view.toNat % 6 : Nat) : Int) (1 + ((x.k.toNat % 6 : Nat) : Int))).vals none 0) rfl rfl rfl (by kernel_rfl) rfl ?_) | ((first | (apply H.ar; (iterate 4 exact rfl)) | (apply H.Bh; (iterate 2 exact rfl))); (with_reducible apply wr_u64; omega); exact rfl))
   refine H.Am (ls := (Bod.zero 0).vals none 0) rfl rfl rfl fun bb => ?_
   refine H.Ak (ls := (Bod.zero 0).vals none 0) (vs := (bodW 1 ((x.view.toNat % 6 : Nat) : Int) (1 + ((x.k.toNat % 6 : Nat) : Int))).vals none 0) (ls' := (bodW 1 ((x.view.toNat % 6 : Nat) : Int) (1 + ((x.k.toNat % 6 : Nat) : Int))).vals none 0) rfl rfl rfl (zae rfl) rfl rfl (Nat.le_refl 76) (.here _ _ _) ?_
   refine gO ?_
   refine H.Aa (x := row wb _ _) (by repeat constructor) ?_
   refine H.Aa (x := logsH _ _ _) (by repeat constructor) ?_
   refine H.Ah rfl rfl rfl (hgr _) ?_
   refine H.Aa (x := row xb _ _) (by repeat constructor) ?_
   refine H.Aa (x := row bb _ _) (by repeat constructor) ?_
   refine gY ?_
   refine H.Ag (ls := x.vals) rfl rfl rfl (Rd.ofRow (.there _ (.here _ _ _))) rfl rfl ?_
   refine H.Ah rfl rfl rfl (hask _) ?_
   refine gS ?_
   refine H.Ak (ls := (bodW 1 ((x.view.toNat % 6 : Nat) : Int) 0).vals none 0) (vs := rq.vals) (ls' := (⟨1, ((x.view.toNat % 6 : Nat) : Int), 0, rq, [], noTag⟩ : Bod).vals none 0) rfl rfl rfl (zae rfl) rfl rfl (show 3 + 40 ≤ 76 by decide) (.here _ _ _) ?_
   refine gZ ?_
   refine H.Ag (ls := (⟨1, (W.l.past o).g, 0, rq, [], noTag⟩ : Bod).vals none 0) rfl rfl rfl (Rd.ofRow (.here _ _ _)) rfl rfl ?_
   refine H.Ak (ls := (Bod.zero 0).vals none 0) (vs := (⟨1, (W.l.past o).g, 0, rq, [], noTag⟩ : Bod).vals none 0) (ls' := (⟨1, (W.l.past o).g, 0, rq, [], noTag⟩ : Bod).vals none 0) rfl rfl rfl (zae rfl) rfl rfl (Nat.le_refl 76) (by repeat constructor) ?_
   refine gX ?_
   refine H.Ab (x := row bb _ _) (by repeat constructor) ?_
   refine H.Ab (x := row xb _ _) (by repeat constructor) ?_
   refine H.Aa (x := row kb _ _) (by repeat constructor) ?_
   refine H.Aa (x := row wb _ _) (by repeat constructor) ?_
   refine H.Aa (x := logsH _ _ _) (by repeat constructor) ?_
   refine H.Aa (x := row ob _ _) (by repeat constructor) ?_
   exact H.Bd (ls := (⟨1, (W.l.past o).g, 0, rq, [], noTag⟩ : Bod).vals none 0) rfl rfl rfl (Rd.ofRow (.here _ _ _)) rfl (fun _ s => s.drop (.here _ _)) ⟨nil0, none, 0, rfl, QAt.nil _ _, Dj.nil _, (un_nil _).symm, rfl⟩
 ·have hk6 : ((x.kind.toNat : Nat) : Int).tmod 6 = 1 := zak (b := 6) h
  rw [h]
  rcases Bool.eq_false_or_eq_true x.raw with hraw | hraw
  ·have hr1 : (!x.raw) = false := by rw [hraw]; rfl
   have hb : x.bodK W n o 1 = (⟨2, ((x.view.toNat % 6 : Nat) : Int), (1 + ((x.k.toNat % 6 : Nat) : Int)), Req.zero, [], noTag⟩ : Bod) := by simp [A15.bodK, hraw, Bod.zero]
   rw [hb]
   refine Fn.enter Tryz.func67 rfl Tryz.ntmps67 rfl (L := [(0, _), (1, _), (2, _)]) ⟨rfl, rfl, rfl, trivial⟩ fun base => ?_
   refine gA ?_
   refine H.box (ls := x.vals) rfl rfl rfl rfl fun xb => ?_
   refine H.Am (ls := (Bod.zero 0).vals none 0) rfl rfl rfl fun ob => ?_
   refine gK ?_
   refine H.rem rfl rfl rfl (by decide) hk6 rfl ?_
   refine gS ?_
   refine H.rem (z := ((x.view.toNat % 6 : Nat) : Int)) rfl rfl rfl (by decide) (zak (b := 6) rfl) rfl ?_
   refine gS ?_
   refine H.rem (z := ((x.k.toNat % 6 : Nat) : Int)) rfl rfl rfl (by decide) (zak (b := 6) rfl) rfl ?_
   repeat (first | (refine H.Bc (t := 52) (out := (bodW 2 ((x.view.toNat % 6 : Nat) : Int) (1 + ((x.k.toNat % 6 : Nat) : Int))).vals none 0) rfl rfl rfl (by kernel_rfl) rfl ?_) | ((first | (apply H.ar; (iterate 4 exact rfl)) | (apply H.Bh; (iterate 2 exact rfl))); (with_reducible apply wr_u64; omega); exact rfl))
   refine H.Am (ls := (Bod.zero 0).vals none 0) rfl rfl rfl fun bb => ?_
   refine H.Ak (ls := (Bod.zero 0).vals none 0) (vs := (bodW 2 ((x.view.toNat % 6 : Nat) : Int) (1 + ((x.k.toNat % 6 : Nat) : Int))).vals none 0) (ls' := (bodW 2 ((x.view.toNat % 6 : Nat) : Int) (1 + ((x.k.toNat % 6 : Nat) : Int))).vals none 0) rfl rfl rfl (zae rfl) rfl rfl (Nat.le_refl 76) (.here _ _ _) ?_
   refine gO ?_
   refine H.Aa (x := row wb _ _) (by repeat constructor) ?_
   refine H.Aa (x := logsH _ _ _) (by repeat constructor) ?_
   refine H.Ah rfl rfl rfl (hgr _) ?_
   refine H.Aa (x := row xb _ _) (by repeat constructor) ?_
   refine H.Aa (x := row bb _ _) (by repeat constructor) ?_
   refine gZ ?_
   refine H.Ag (ls := (⟨2, ((x.view.toNat % 6 : Nat) : Int), (1 + ((x.k.toNat % 6 : Nat) : Int)), Req.zero, [], noTag⟩ : Bod).vals none 0) rfl rfl rfl (Rd.ofRow (.here _ _ _)) rfl rfl ?_
   refine H.Ak (ls := (Bod.zero 0).vals none 0) (vs := (⟨2, ((x.view.toNat % 6 : Nat) : Int), (1 + ((x.k.toNat % 6 : Nat) : Int)), Req.zero, [], noTag⟩ : Bod).vals none 0) (ls' := (⟨2, ((x.view.toNat % 6 : Nat) : Int), (1 + ((x.k.toNat % 6 : Nat) : Int)), Req.zero, [], noTag⟩ : Bod).vals none 0) rfl rfl rfl (zae rfl) rfl rfl (Nat.le_refl 76) (by repeat constructor) ?_
   refine gX ?_
   refine H.Ab (x := row bb _ _) (by repeat constructor) ?_
   refine H.Ab (x := row xb _ _) (by repeat constructor) ?_
   refine H.Aa (x := row kb _ _) (by repeat constructor) ?_
   refine H.Aa (x := row wb _ _) (by repeat constructor) ?_
   refine H.Aa (x := logsH _ _ _) (by repeat constructor) ?_
   refine H.Aa (x := row ob _ _) (by repeat constructor) ?_
   exact H.Bd (ls := (⟨2, ((x.view.toNat % 6 : Nat) : Int), (1 + ((x.k.toNat % 6 : Nat) : Int)), Req.zero, [], noTag⟩ : Bod).vals none 0) rfl rfl rfl (Rd.ofRow (.here _ _ _)) rfl (fun _ s => s.drop (.here _ _)) ⟨nil0, none, 0, rfl, QAt.nil _ _, Dj.nil _, (un_nil _).symm, rfl⟩
  ·have hr1 : (!x.raw) = true := by rw [hraw]; rfl
   have hb : x.bodK W n o 1 = (⟨2, (W.l.past o).g, votedZ (W.l.past o) (W.l.past o).g + 1, Req.zero, [], noTag⟩ : Bod) := by simp [A15.bodK, hraw, Bod.zero]
   rw [hb]
   have hvz := votedZ_le hwf (by omega) (W.l.past o).g
   have hvt : ∀ (b : Nat) G, Fn Tryz.prog 64 [.pointer (some ⟨b, 0, none⟩), .int .u64 (W.l.past o).g] f (pstH b (W.l.past o) :: G) (Ret (.tuple #[.int .i64 (votedZ (W.l.past o) (W.l.past o).g), .bool (PM.voted (W.l.past o).all (W.l.past o).g).isSome]) f (pstH b (W.l.past o) :: G)) := fun b G => pst_voted f G b (W.l.past o) (by have := hW.l.il o hol; omega) _
   generalize votedZ (W.l.past o) (W.l.past o).g = vz at hvt hvz ⊢
   refine Fn.enter Tryz.func67 rfl Tryz.ntmps67 rfl (L := [(0, _), (1, _), (2, _)]) ⟨rfl, rfl, rfl, trivial⟩ fun base => ?_
   refine gA ?_
   refine H.box (ls := x.vals) rfl rfl rfl rfl fun xb => ?_
   refine H.Am (ls := (Bod.zero 0).vals none 0) rfl rfl rfl fun ob => ?_
   refine gK ?_
   refine H.rem rfl rfl rfl (by decide) hk6 rfl ?_
   refine gS ?_
   refine H.rem (z := ((x.view.toNat % 6 : Nat) : Int)) rfl rfl rfl (by decide) (zak (b := 6) rfl) rfl ?_
   refine gS ?_
   refine H.rem (z := ((x.k.toNat % 6 : Nat) : Int)) rfl rfl rfl (by decide) (zak (b := 6) rfl) rfl ?_
   repeat (first | (refine H.Bc (t := 52) (out := (bodW 2 ((x.view.toNat % 6 : Nat) : Int) (1 + ((x.k.toNat % 6 : Nat) : Int))).vals none 0) rfl rfl rfl (by kernel_rfl) rfl ?_) | ((first | (apply H.ar; (iterate 4 exact rfl)) | (apply H.Bh; (iterate 2 exact rfl))); (with_reducible apply wr_u64; omega); exact rfl))
   refine H.Am (ls := (Bod.zero 0).vals none 0) rfl rfl rfl fun bb => ?_
   refine H.Ak (ls := (Bod.zero 0).vals none 0) (vs := (bodW 2 ((x.view.toNat % 6 : Nat) : Int) (1 + ((x.k.toNat % 6 : Nat) : Int))).vals none 0) (ls' := (bodW 2 ((x.view.toNat % 6 : Nat) : Int) (1 + ((x.k.toNat % 6 : Nat) : Int))).vals none 0) rfl rfl rfl (zae rfl) rfl rfl (Nat.le_refl 76) (.here _ _ _) ?_
   refine gO ?_
   refine H.Aa (x := row wb _ _) (by repeat constructor) ?_
   refine H.Aa (x := logsH _ _ _) (by repeat constructor) ?_
   refine H.Ah rfl rfl rfl (hgr _) ?_
   refine H.Aa (x := row xb _ _) (by repeat constructor) ?_
   refine H.Aa (x := row bb _ _) (by repeat constructor) ?_
   refine gZ ?_
   refine H.Aa (x := logsH _ _ _) (by repeat constructor) ?_
   refine H.unpack fun i1 hi1 => ?_
   obtain ⟨V, vp, vc, pp, pc, cp, cc, pb, cs⟩ := i1
   have hiF := hi1.mono hfl
   show H _ _ _ _ _ (row lb 148 (lgC W.l.n W.l.known vp V.length vc pp pc cp cc) :: slc vp V.length vc 143 4 (V.flatMap VV.vals) :: lst (V.map VV.own) :: fam (fun r => pstH (pb r) (W.l.past r)) W.l.n :: slc cp W.l.n cc 184 1 (chRow W.l cs) :: fam (chFam W.l cs) W.l.n :: _) _
   obtain ⟨pbb, poff, hpp0, rdp0⟩ := hiF.past (by show 0 < W.l.n; omega)
   have hpp : pp = some ⟨pbb, poff, none⟩ := hpp0
   have rdp : ∀ {A : List HP} {r : Nat}, r < W.l.n → Rd1 f A pbb (poff + r) (.pointer (some ⟨pb r, 0, none⟩)) := fun {A r} hr => rdp0 (Le.refl f) hr
   clear hpp0 rdp0
   refine H.Aa (x := row lb _ _) (by repeat constructor) ?_
   refine gK ?_
   refine H.Ap (b := pbb) (off := poff) (i := o) rfl (by rw [← hpp]; rfl) rfl (by omega) hol rfl ?_
   refine H.Ad rfl rfl rfl (by rw [Nat.mul_one]; exact rdp hol) rfl ?_
   refine gO ?_
   refine H.Aa (x := fam (fun r => pstH _ _) _) (by repeat constructor) ?_
   refine H.famPull hol ?_
   refine H.Ah rfl rfl rfl (hvt _ _) ?_
   refine H.famBack (g := fun r => pstH (pb r) (W.l.past r)) hol ?_
   refine H.Aa (x := fam (chFam W.l cs) _) (by repeat constructor) ?_
   refine H.Aa (x := slc cp _ cc _ _ _) (by repeat constructor) ?_
   refine H.Aa (x := fam (fun r => pstH _ _) _) (by repeat constructor) ?_
   refine H.Aa (x := lst (V.map VV.own)) (by repeat constructor) ?_
   refine H.Aa (x := slc vp _ vc _ _ _) (by repeat constructor) ?_
   refine H.Aa (x := row lb _ _) (by repeat constructor) ?_
   refine H.imp (zah ⟨V, vp, vc, pp, pc, cp, cc, pb, cs⟩ hi1) ?_
   refine H.Aa (x := row xb _ _) (by repeat constructor) ?_
   refine H.Aa (x := row bb _ _) (by repeat constructor) ?_
   refine gZ ?_
   refine H.Ag (ls := (⟨2, (W.l.past o).g, vz + 1, Req.zero, [], noTag⟩ : Bod).vals none 0) rfl rfl rfl (Rd.ofRow (.here _ _ _)) rfl rfl ?_
   refine H.Ak (ls := (Bod.zero 0).vals none 0) (vs := (⟨2, (W.l.past o).g, vz + 1, Req.zero, [], noTag⟩ : Bod).vals none 0) (ls' := (⟨2, (W.l.past o).g, vz + 1, Req.zero, [], noTag⟩ : Bod).vals none 0) rfl rfl rfl (zae rfl) rfl rfl (Nat.le_refl 76) (by repeat constructor) ?_
   refine gX ?_
   refine H.Ab (x := row bb _ _) (by repeat constructor) ?_
   refine H.Ab (x := row xb _ _) (by repeat constructor) ?_
   refine H.Aa (x := row kb _ _) (by repeat constructor) ?_
   refine H.Aa (x := row wb _ _) (by repeat constructor) ?_
   refine H.Aa (x := logsH _ _ _) (by repeat constructor) ?_
   refine H.Aa (x := row ob _ _) (by repeat constructor) ?_
   exact H.Bd (ls := (⟨2, (W.l.past o).g, vz + 1, Req.zero, [], noTag⟩ : Bod).vals none 0) rfl rfl rfl (Rd.ofRow (.here _ _ _)) rfl (fun _ s => s.drop (.here _ _)) ⟨nil0, none, 0, rfl, QAt.nil _ _, Dj.nil _, (un_nil _).symm, rfl⟩
 ·have hk6 : ((x.kind.toNat : Nat) : Int).tmod 6 = 2 := zak (b := 6) h
  rw [h]
  rcases Bool.eq_false_or_eq_true x.raw with hraw | hraw
  ·have hr1 : (!x.raw) = false := by rw [hraw]; rfl
   have hb : x.bodK W n o 2 = (⟨3, fix1 (((x.view.toNat % 6 : Nat) : Int)), 0, Req.zero, [], noTag⟩ : Bod) := by simp [A15.bodK, hraw, Bod.zero]
   rw [hb]
   refine Fn.enter Tryz.func67 rfl Tryz.ntmps67 rfl (L := [(0, _), (1, _), (2, _)]) ⟨rfl, rfl, rfl, trivial⟩ fun base => ?_
   refine gA ?_
   refine H.box (ls := x.vals) rfl rfl rfl rfl fun xb => ?_
   refine H.Am (ls := (Bod.zero 0).vals none 0) rfl rfl rfl fun ob => ?_
   refine gK ?_
   refine H.rem rfl rfl rfl (by decide) hk6 rfl ?_
   refine gS ?_
   refine H.rem (z := ((x.view.toNat % 6 : Nat) : Int)) rfl rfl rfl (by decide) (zak (b := 6) rfl) rfl ?_
   refine gS ?_
   refine H.rem (z := ((x.k.toNat % 6 : Nat) : Int)) rfl rfl rfl (by decide) (zak (b := 6) rfl) rfl ?_
   repeat (first | (refine H.Bc (t := 52) (out := (bodW 3 ((x.view.toNat % 6 : Nat) : Int) (1 + ((x.k.toNat % 6 : Nat) : Int))).vals none 0) rfl rfl rfl (by kernel_rfl) rfl ?_) | ((first | (apply H.ar; (iterate 4 exact rfl)) | (apply H.Bh; (iterate 2 exact rfl))); (with_reducible apply wr_u64; omega); exact rfl))
   refine H.Am (ls := (Bod.zero 0).vals none 0) rfl rfl rfl fun bb => ?_
   refine H.Ak (ls := (Bod.zero 0).vals none 0) (vs := (bodW 3 ((x.view.toNat % 6 : Nat) : Int) (1 + ((x.k.toNat % 6 : Nat) : Int))).vals none 0) (ls' := (bodW 3 ((x.view.toNat % 6 : Nat) : Int) (1 + ((x.k.toNat % 6 : Nat) : Int))).vals none 0) rfl rfl rfl (zae rfl) rfl rfl (Nat.le_refl 76) (.here _ _ _) ?_
   refine gO ?_
   refine H.Aa (x := row wb _ _) (by repeat constructor) ?_
   refine H.Aa (x := logsH _ _ _) (by repeat constructor) ?_
   refine H.Ah rfl rfl rfl (hgr _) ?_
   refine H.Aa (x := row xb _ _) (by repeat constructor) ?_
   refine H.Aa (x := row bb _ _) (by repeat constructor) ?_
   by_cases hz : ((x.view.toNat % 6 : Nat) : Int) = 0
   ·rw [show fix1 (((x.view.toNat % 6 : Nat) : Int)) = 1 from if_pos hz]
    refine gZ ?_
    refine H.Ag (ls := (⟨3, 1, 0, Req.zero, [], noTag⟩ : Bod).vals none 0) rfl rfl rfl (Rd.ofRow (.here _ _ _)) rfl rfl ?_
    refine H.Ak (ls := (Bod.zero 0).vals none 0) (vs := (⟨3, 1, 0, Req.zero, [], noTag⟩ : Bod).vals none 0) (ls' := (⟨3, 1, 0, Req.zero, [], noTag⟩ : Bod).vals none 0) rfl rfl rfl (zae rfl) rfl rfl (Nat.le_refl 76) (by repeat constructor) ?_
    refine gX ?_
    refine H.Ab (x := row bb _ _) (by repeat constructor) ?_
    refine H.Ab (x := row xb _ _) (by repeat constructor) ?_
    refine H.Aa (x := row kb _ _) (by repeat constructor) ?_
    refine H.Aa (x := row wb _ _) (by repeat constructor) ?_
    refine H.Aa (x := logsH _ _ _) (by repeat constructor) ?_
    refine H.Aa (x := row ob _ _) (by repeat constructor) ?_
    exact H.Bd (ls := (⟨3, 1, 0, Req.zero, [], noTag⟩ : Bod).vals none 0) rfl rfl rfl (Rd.ofRow (.here _ _ _)) rfl (fun _ s => s.drop (.here _ _)) ⟨nil0, none, 0, rfl, QAt.nil _ _, Dj.nil _, (un_nil _).symm, rfl⟩
   ·rw [show fix1 (((x.view.toNat % 6 : Nat) : Int)) = ((x.view.toNat % 6 : Nat) : Int) from if_neg hz]
    refine gZ ?_
    refine H.Ag (ls := (⟨3, ((x.view.toNat % 6 : Nat) : Int), 0, Req.zero, [], noTag⟩ : Bod).vals none 0) rfl rfl rfl (Rd.ofRow (.here _ _ _)) rfl rfl ?_
    refine H.Ak (ls := (Bod.zero 0).vals none 0) (vs := (⟨3, ((x.view.toNat % 6 : Nat) : Int), 0, Req.zero, [], noTag⟩ : Bod).vals none 0) (ls' := (⟨3, ((x.view.toNat % 6 : Nat) : Int), 0, Req.zero, [], noTag⟩ : Bod).vals none 0) rfl rfl rfl (zae rfl) rfl rfl (Nat.le_refl 76) (by repeat constructor) ?_
    refine gX ?_
    refine H.Ab (x := row bb _ _) (by repeat constructor) ?_
    refine H.Ab (x := row xb _ _) (by repeat constructor) ?_
    refine H.Aa (x := row kb _ _) (by repeat constructor) ?_
    refine H.Aa (x := row wb _ _) (by repeat constructor) ?_
    refine H.Aa (x := logsH _ _ _) (by repeat constructor) ?_
    refine H.Aa (x := row ob _ _) (by repeat constructor) ?_
    exact H.Bd (ls := (⟨3, ((x.view.toNat % 6 : Nat) : Int), 0, Req.zero, [], noTag⟩ : Bod).vals none 0) rfl rfl rfl (Rd.ofRow (.here _ _ _)) rfl (fun _ s => s.drop (.here _ _)) ⟨nil0, none, 0, rfl, QAt.nil _ _, Dj.nil _, (un_nil _).symm, rfl⟩
  ·have hr1 : (!x.raw) = true := by rw [hraw]; rfl
   have hb : x.bodK W n o 2 = (⟨3, fix1 ((W.l.past o).g + 1 + ((x.view.toNat % 2 : Nat) : Int)), 0, Req.zero, [], noTag⟩ : Bod) := by simp [A15.bodK, hraw, Bod.zero]
   rw [hb]
   rw [show fix1 ((W.l.past o).g + 1 + ((x.view.toNat % 2 : Nat) : Int)) = (W.l.past o).g + 1 + ((x.view.toNat % 2 : Nat) : Int) from if_neg (by omega)]
   refine Fn.enter Tryz.func67 rfl Tryz.ntmps67 rfl (L := [(0, _), (1, _), (2, _)]) ⟨rfl, rfl, rfl, trivial⟩ fun base => ?_
   refine gA ?_
   refine H.box (ls := x.vals) rfl rfl rfl rfl fun xb => ?_
   refine H.Am (ls := (Bod.zero 0).vals none 0) rfl rfl rfl fun ob => ?_
   refine gK ?_
   refine H.rem rfl rfl rfl (by decide) hk6 rfl ?_
   refine gS ?_
   refine H.rem (z := ((x.view.toNat % 6 : Nat) : Int)) rfl rfl rfl (by decide) (zak (b := 6) rfl) rfl ?_
   refine gS ?_
   refine H.rem (z := ((x.k.toNat % 6 : Nat) : Int)) rfl rfl rfl (by decide) (zak (b := 6) rfl) rfl ?_
   repeat (first | (refine H.Bc (t := 52) (out := (bodW 3 ((x.view.toNat % 6 : Nat) : Int) (1 + ((x.k.toNat % 6 : Nat) : Int))).vals none 0) rfl rfl rfl (by kernel_rfl) rfl ?_) | ((first | (apply H.ar; (iterate 4 exact rfl)) | (apply H.Bh; (iterate 2 exact rfl))); (with_reducible apply wr_u64; omega); exact rfl))
   refine H.Am (ls := (Bod.zero 0).vals none 0) rfl rfl rfl fun bb => ?_
   refine H.Ak (ls := (Bod.zero 0).vals none 0) (vs := (bodW 3 ((x.view.toNat % 6 : Nat) : Int) (1 + ((x.k.toNat % 6 : Nat) : Int))).vals none 0) (ls' := (bodW 3 ((x.view.toNat % 6 : Nat) : Int) (1 + ((x.k.toNat % 6 : Nat) : Int))).vals none 0) rfl rfl rfl (zae rfl) rfl rfl (Nat.le_refl 76) (.here _ _ _) ?_
   refine gO ?_
   refine H.Aa (x := row wb _ _) (by repeat constructor) ?_
   refine H.Aa (x := logsH _ _ _) (by repeat constructor) ?_
   refine H.Ah rfl rfl rfl (hgr _) ?_
   refine H.Aa (x := row xb _ _) (by repeat constructor) ?_
   refine H.Aa (x := row bb _ _) (by repeat constructor) ?_
   refine gZ ?_
   refine H.rem (z := ((x.view.toNat % 2 : Nat) : Int)) rfl rfl rfl (by decide) (zak (b := 2) rfl) rfl ?_
   refine gZ ?_
   refine H.Ag (ls := (⟨3, (W.l.past o).g + 1 + ((x.view.toNat % 2 : Nat) : Int), 0, Req.zero, [], noTag⟩ : Bod).vals none 0) rfl rfl rfl (Rd.ofRow (.here _ _ _)) rfl rfl ?_
   refine H.Ak (ls := (Bod.zero 0).vals none 0) (vs := (⟨3, (W.l.past o).g + 1 + ((x.view.toNat % 2 : Nat) : Int), 0, Req.zero, [], noTag⟩ : Bod).vals none 0) (ls' := (⟨3, (W.l.past o).g + 1 + ((x.view.toNat % 2 : Nat) : Int), 0, Req.zero, [], noTag⟩ : Bod).vals none 0) rfl rfl rfl (zae rfl) rfl rfl (Nat.le_refl 76) (by repeat constructor) ?_
   refine gX ?_
   refine H.Ab (x := row bb _ _) (by repeat constructor) ?_
   refine H.Ab (x := row xb _ _) (by repeat constructor) ?_
   refine H.Aa (x := row kb _ _) (by repeat constructor) ?_
   refine H.Aa (x := row wb _ _) (by repeat constructor) ?_
   refine H.Aa (x := logsH _ _ _) (by repeat constructor) ?_
   refine H.Aa (x := row ob _ _) (by repeat constructor) ?_
   exact H.Bd (ls := (⟨3, (W.l.past o).g + 1 + ((x.view.toNat % 2 : Nat) : Int), 0, Req.zero, [], noTag⟩ : Bod).vals none 0) rfl rfl rfl (Rd.ofRow (.here _ _ _)) rfl (fun _ s => s.drop (.here _ _)) ⟨nil0, none, 0, rfl, QAt.nil _ _, Dj.nil _, (un_nil _).symm, rfl⟩
 ·have hk6 : ((x.kind.toNat : Nat) : Int).tmod 6 = 3 := zak (b := 6) h
  rw [h]
  have hq15 := fun G => q15_fn f G hfl (wb := wb) (kb := kb) (lb := lb) (l := W.l) hW.l hT (ap := ap) (m := m) (ac := ac) hnn ho (kv := W.w.kv) hx hq20 (W.l.past o).g
  rcases Bool.eq_false_or_eq_true x.raw with hraw | hraw
  ·have hr1 : (!x.raw) = false := by rw [hraw]; rfl
   have hb : x.bodK W n o 3 = (⟨4, fix1 (((x.view.toNat % 6 : Nat) : Int)), 0, Req.zero, x.qs n W.l.ch (W.w.kv o) (W.l.past o).g, noTag⟩ : Bod) := by simp [A15.bodK, hraw, Bod.zero]
   rw [hb]
   generalize x.qs n W.l.ch (W.w.kv o) (W.l.past o).g = Q at hq15 ⊢
   refine Fn.enter Tryz.func67 rfl Tryz.ntmps67 rfl (L := [(0, _), (1, _), (2, _)]) ⟨rfl, rfl, rfl, trivial⟩ fun base => ?_
   refine gA ?_
   refine H.box (ls := x.vals) rfl rfl rfl rfl fun xb => ?_
   refine H.Am (ls := (Bod.zero 0).vals none 0) rfl rfl rfl fun ob => ?_
   refine gK ?_
   refine H.rem rfl rfl rfl (by decide) hk6 rfl ?_
   refine gS ?_
   refine H.rem (z := ((x.view.toNat % 6 : Nat) : Int)) rfl rfl rfl (by decide) (zak (b := 6) rfl) rfl ?_
   refine gS ?_
   refine H.rem (z := ((x.k.toNat % 6 : Nat) : Int)) rfl rfl rfl (by decide) (zak (b := 6) rfl) rfl ?_
   repeat (first | (refine H.Bc (t := 52) (out := (bodW 4 ((x.view.toNat % 6 : Nat) : Int) (1 + ((x.k.toNat % 6 : Nat) : Int))).vals none 0) rfl rfl rfl (by kernel_rfl) rfl ?_) | ((first | (apply H.ar; (iterate 4 exact rfl)) | (apply H.Bh; (iterate 2 exact rfl))); (with_reducible apply wr_u64; omega); exact rfl))
   refine H.Am (ls := (Bod.zero 0).vals none 0) rfl rfl rfl fun bb => ?_
   refine H.Ak (ls := (Bod.zero 0).vals none 0) (vs := (bodW 4 ((x.view.toNat % 6 : Nat) : Int) (1 + ((x.k.toNat % 6 : Nat) : Int))).vals none 0) (ls' := (bodW 4 ((x.view.toNat % 6 : Nat) : Int) (1 + ((x.k.toNat % 6 : Nat) : Int))).vals none 0) rfl rfl rfl (zae rfl) rfl rfl (Nat.le_refl 76) (.here _ _ _) ?_
   refine gO ?_
   refine H.Aa (x := row wb _ _) (by repeat constructor) ?_
   refine H.Aa (x := logsH _ _ _) (by repeat constructor) ?_
   refine H.Ah rfl rfl rfl (hgr _) ?_
   refine H.Aa (x := row xb _ _) (by repeat constructor) ?_
   refine H.Aa (x := row bb _ _) (by repeat constructor) ?_
   refine gY ?_
   refine H.Ag (ls := x.vals) rfl rfl rfl (Rd.ofRow (.there _ (.here _ _ _))) rfl rfl ?_
   refine gO ?_
   refine H.Aa (x := row kb _ _) (by repeat constructor) ?_
   refine H.Aa (x := row wb _ _) (by repeat constructor) ?_
   refine H.Aa (x := logsH _ _ _) (by repeat constructor) ?_
   refine H.callE rfl rfl rfl (hq15 _) fun qi => ?_
   obtain ⟨qp, qc⟩ := qi
   refine H.freeze (.here _ _) fun g hg hd => ?_
   have hqa : QAt (un f g) qp Q := ListAt.mono (vals := pairV) (Le.right hd) (slc_listAt (vals := pairV) (fun _ => rfl) hg)
   refine H.Aa (x := row xb _ _) (by repeat constructor) ?_
   refine H.Aa (x := row bb _ _) (by repeat constructor) ?_
   by_cases hz : ((x.view.toNat % 6 : Nat) : Int) = 0
   ·rw [show fix1 (((x.view.toNat % 6 : Nat) : Int)) = 1 from if_pos hz]
    refine gZ ?_
    refine H.Ag (ls := (⟨4, 1, 0, Req.zero, Q, noTag⟩ : Bod).vals qp qc) rfl rfl rfl (Rd.ofRow (.here _ _ _)) rfl rfl ?_
    refine H.Ak (ls := (Bod.zero 0).vals none 0) (vs := (⟨4, 1, 0, Req.zero, Q, noTag⟩ : Bod).vals qp qc) (ls' := (⟨4, 1, 0, Req.zero, Q, noTag⟩ : Bod).vals qp qc) rfl rfl rfl (zae rfl) rfl rfl (Nat.le_refl 76) (by repeat constructor) ?_
    refine gX ?_
    refine H.Ab (x := row bb _ _) (by repeat constructor) ?_
    refine H.Ab (x := row xb _ _) (by repeat constructor) ?_
    refine H.Aa (x := row kb _ _) (by repeat constructor) ?_
    refine H.Aa (x := row wb _ _) (by repeat constructor) ?_
    refine H.Aa (x := logsH _ _ _) (by repeat constructor) ?_
    refine H.Aa (x := row ob _ _) (by repeat constructor) ?_
    exact H.Bd (ls := (⟨4, 1, 0, Req.zero, Q, noTag⟩ : Bod).vals qp qc) rfl rfl rfl (Rd.ofRow (.here _ _ _)) rfl (fun _ s => s.drop (.here _ _)) ⟨g, qp, qc, rfl, hqa, hd, rfl, rfl⟩
   ·rw [show fix1 (((x.view.toNat % 6 : Nat) : Int)) = ((x.view.toNat % 6 : Nat) : Int) from if_neg hz]
    refine gZ ?_
    refine H.Ag (ls := (⟨4, ((x.view.toNat % 6 : Nat) : Int), 0, Req.zero, Q, noTag⟩ : Bod).vals qp qc) rfl rfl rfl (Rd.ofRow (.here _ _ _)) rfl rfl ?_
    refine H.Ak (ls := (Bod.zero 0).vals none 0) (vs := (⟨4, ((x.view.toNat % 6 : Nat) : Int), 0, Req.zero, Q, noTag⟩ : Bod).vals qp qc) (ls' := (⟨4, ((x.view.toNat % 6 : Nat) : Int), 0, Req.zero, Q, noTag⟩ : Bod).vals qp qc) rfl rfl rfl (zae rfl) rfl rfl (Nat.le_refl 76) (by repeat constructor) ?_
    refine gX ?_
    refine H.Ab (x := row bb _ _) (by repeat constructor) ?_
    refine H.Ab (x := row xb _ _) (by repeat constructor) ?_
    refine H.Aa (x := row kb _ _) (by repeat constructor) ?_
    refine H.Aa (x := row wb _ _) (by repeat constructor) ?_
    refine H.Aa (x := logsH _ _ _) (by repeat constructor) ?_
    refine H.Aa (x := row ob _ _) (by repeat constructor) ?_
    exact H.Bd (ls := (⟨4, ((x.view.toNat % 6 : Nat) : Int), 0, Req.zero, Q, noTag⟩ : Bod).vals qp qc) rfl rfl rfl (Rd.ofRow (.here _ _ _)) rfl (fun _ s => s.drop (.here _ _)) ⟨g, qp, qc, rfl, hqa, hd, rfl, rfl⟩
  ·have hr1 : (!x.raw) = true := by rw [hraw]; rfl
   have hb : x.bodK W n o 3 = (⟨4, fix1 ((W.l.past o).g), 0, Req.zero, x.qs n W.l.ch (W.w.kv o) (W.l.past o).g, noTag⟩ : Bod) := by simp [A15.bodK, hraw, Bod.zero]
   rw [hb]
   generalize x.qs n W.l.ch (W.w.kv o) (W.l.past o).g = Q at hq15 ⊢
   refine Fn.enter Tryz.func67 rfl Tryz.ntmps67 rfl (L := [(0, _), (1, _), (2, _)]) ⟨rfl, rfl, rfl, trivial⟩ fun base => ?_
   refine gA ?_
   refine H.box (ls := x.vals) rfl rfl rfl rfl fun xb => ?_
   refine H.Am (ls := (Bod.zero 0).vals none 0) rfl rfl rfl fun ob => ?_
   refine gK ?_
   refine H.rem rfl rfl rfl (by decide) hk6 rfl ?_
   refine gS ?_
   refine H.rem (z := ((x.view.toNat % 6 : Nat) : Int)) rfl rfl rfl (by decide) (zak (b := 6) rfl) rfl ?_
   refine gS ?_
   refine H.rem (z := ((x.k.toNat % 6 : Nat) : Int)) rfl rfl rfl (by decide) (zak (b := 6) rfl) rfl ?_
   repeat (first | (refine H.Bc (t := 52) (out := (bodW 4 ((x.view.toNat % 6 : Nat) : Int) (1 + ((x.k.toNat % 6 : Nat) : Int))).vals none 0) rfl rfl rfl (by kernel_rfl) rfl ?_) | ((first | (apply H.ar; (iterate 4 exact rfl)) | (apply H.Bh; (iterate 2 exact rfl))); (with_reducible apply wr_u64; omega); exact rfl))
   refine H.Am (ls := (Bod.zero 0).vals none 0) rfl rfl rfl fun bb => ?_
   refine H.Ak (ls := (Bod.zero 0).vals none 0) (vs := (bodW 4 ((x.view.toNat % 6 : Nat) : Int) (1 + ((x.k.toNat % 6 : Nat) : Int))).vals none 0) (ls' := (bodW 4 ((x.view.toNat % 6 : Nat) : Int) (1 + ((x.k.toNat % 6 : Nat) : Int))).vals none 0) rfl rfl rfl (zae rfl) rfl rfl (Nat.le_refl 76) (.here _ _ _) ?_
   refine gO ?_
   refine H.Aa (x := row wb _ _) (by repeat constructor) ?_
   refine H.Aa (x := logsH _ _ _) (by repeat constructor) ?_
   refine H.Ah rfl rfl rfl (hgr _) ?_
   refine H.Aa (x := row xb _ _) (by repeat constructor) ?_
   refine H.Aa (x := row bb _ _) (by repeat constructor) ?_
   refine gY ?_
   refine H.Ag (ls := x.vals) rfl rfl rfl (Rd.ofRow (.there _ (.here _ _ _))) rfl rfl ?_
   refine gO ?_
   refine H.Aa (x := row kb _ _) (by repeat constructor) ?_
   refine H.Aa (x := row wb _ _) (by repeat constructor) ?_
   refine H.Aa (x := logsH _ _ _) (by repeat constructor) ?_
   refine H.callE rfl rfl rfl (hq15 _) fun qi => ?_
   obtain ⟨qp, qc⟩ := qi
   refine H.freeze (.here _ _) fun g hg hd => ?_
   have hqa : QAt (un f g) qp Q := ListAt.mono (vals := pairV) (Le.right hd) (slc_listAt (vals := pairV) (fun _ => rfl) hg)
   refine H.Aa (x := row xb _ _) (by repeat constructor) ?_
   refine H.Aa (x := row bb _ _) (by repeat constructor) ?_
   by_cases hz : (W.l.past o).g = 0
   ·rw [show fix1 ((W.l.past o).g) = 1 from if_pos hz]
    refine gZ ?_
    refine H.Ag (ls := (⟨4, 1, 0, Req.zero, Q, noTag⟩ : Bod).vals qp qc) rfl rfl rfl (Rd.ofRow (.here _ _ _)) rfl rfl ?_
    refine H.Ak (ls := (Bod.zero 0).vals none 0) (vs := (⟨4, 1, 0, Req.zero, Q, noTag⟩ : Bod).vals qp qc) (ls' := (⟨4, 1, 0, Req.zero, Q, noTag⟩ : Bod).vals qp qc) rfl rfl rfl (zae rfl) rfl rfl (Nat.le_refl 76) (by repeat constructor) ?_
    refine gX ?_
    refine H.Ab (x := row bb _ _) (by repeat constructor) ?_
    refine H.Ab (x := row xb _ _) (by repeat constructor) ?_
    refine H.Aa (x := row kb _ _) (by repeat constructor) ?_
    refine H.Aa (x := row wb _ _) (by repeat constructor) ?_
    refine H.Aa (x := logsH _ _ _) (by repeat constructor) ?_
    refine H.Aa (x := row ob _ _) (by repeat constructor) ?_
    exact H.Bd (ls := (⟨4, 1, 0, Req.zero, Q, noTag⟩ : Bod).vals qp qc) rfl rfl rfl (Rd.ofRow (.here _ _ _)) rfl (fun _ s => s.drop (.here _ _)) ⟨g, qp, qc, rfl, hqa, hd, rfl, rfl⟩
   ·rw [show fix1 ((W.l.past o).g) = (W.l.past o).g from if_neg hz]
    refine gZ ?_
    refine H.Ag (ls := (⟨4, (W.l.past o).g, 0, Req.zero, Q, noTag⟩ : Bod).vals qp qc) rfl rfl rfl (Rd.ofRow (.here _ _ _)) rfl rfl ?_
    refine H.Ak (ls := (Bod.zero 0).vals none 0) (vs := (⟨4, (W.l.past o).g, 0, Req.zero, Q, noTag⟩ : Bod).vals qp qc) (ls' := (⟨4, (W.l.past o).g, 0, Req.zero, Q, noTag⟩ : Bod).vals qp qc) rfl rfl rfl (zae rfl) rfl rfl (Nat.le_refl 76) (by repeat constructor) ?_
    refine gX ?_
    refine H.Ab (x := row bb _ _) (by repeat constructor) ?_
    refine H.Ab (x := row xb _ _) (by repeat constructor) ?_
    refine H.Aa (x := row kb _ _) (by repeat constructor) ?_
    refine H.Aa (x := row wb _ _) (by repeat constructor) ?_
    refine H.Aa (x := logsH _ _ _) (by repeat constructor) ?_
    refine H.Aa (x := row ob _ _) (by repeat constructor) ?_
    exact H.Bd (ls := (⟨4, (W.l.past o).g, 0, Req.zero, Q, noTag⟩ : Bod).vals qp qc) rfl rfl rfl (Rd.ofRow (.here _ _ _)) rfl (fun _ s => s.drop (.here _ _)) ⟨g, qp, qc, rfl, hqa, hd, rfl, rfl⟩
 ·have hk6 : ((x.kind.toNat : Nat) : Int).tmod 6 = 4 := zak (b := 6) h
  rw [h]
  rcases Bool.eq_false_or_eq_true x.raw with hraw | hraw
  ·have hr1 : (!x.raw) = false := by rw [hraw]; rfl
   have hb : x.bodK W n o 4 = (⟨5, fix1 (((x.view.toNat % 6 : Nat) : Int)), 0, Req.zero, [], noTag⟩ : Bod) := by simp [A15.bodK, hraw, Bod.zero]
   rw [hb]
   refine Fn.enter Tryz.func67 rfl Tryz.ntmps67 rfl (L := [(0, _), (1, _), (2, _)]) ⟨rfl, rfl, rfl, trivial⟩ fun base => ?_
   refine gA ?_
   refine H.box (ls := x.vals) rfl rfl rfl rfl fun xb => ?_
   refine H.Am (ls := (Bod.zero 0).vals none 0) rfl rfl rfl fun ob => ?_
   refine gK ?_
   refine H.rem rfl rfl rfl (by decide) hk6 rfl ?_
   refine gS ?_
   refine H.rem (z := ((x.view.toNat % 6 : Nat) : Int)) rfl rfl rfl (by decide) (zak (b := 6) rfl) rfl ?_
   refine gS ?_
   refine H.rem (z := ((x.k.toNat % 6 : Nat) : Int)) rfl rfl rfl (by decide) (zak (b := 6) rfl) rfl ?_
   repeat (first | (refine H.Bc (t := 52) (out := (bodW 5 ((x.view.toNat % 6 : Nat) : Int) (1 + ((x.k.toNat % 6 : Nat) : Int))).vals none 0) rfl rfl rfl (by kernel_rfl) rfl ?_) | ((first | (apply H.ar; (iterate 4 exact rfl)) | (apply H.Bh; (iterate 2 exact rfl))); (with_reducible apply wr_u64; omega); exact rfl))
   refine H.Am (ls := (Bod.zero 0).vals none 0) rfl rfl rfl fun bb => ?_
   refine H.Ak (ls := (Bod.zero 0).vals none 0) (vs := (bodW 5 ((x.view.toNat % 6 : Nat) : Int) (1 + ((x.k.toNat % 6 : Nat) : Int))).vals none 0) (ls' := (bodW 5 ((x.view.toNat % 6 : Nat) : Int) (1 + ((x.k.toNat % 6 : Nat) : Int))).vals none 0) rfl rfl rfl (zae rfl) rfl rfl (Nat.le_refl 76) (.here _ _ _) ?_
   refine gO ?_
   refine H.Aa (x := row wb _ _) (by repeat constructor) ?_
   refine H.Aa (x := logsH _ _ _) (by repeat constructor) ?_
   refine H.Ah rfl rfl rfl (hgr _) ?_
   refine H.Aa (x := row xb _ _) (by repeat constructor) ?_
   refine H.Aa (x := row bb _ _) (by repeat constructor) ?_
   by_cases hz : ((x.view.toNat % 6 : Nat) : Int) = 0
   ·rw [show fix1 (((x.view.toNat % 6 : Nat) : Int)) = 1 from if_pos hz]
    refine gZ ?_
    refine H.Ag (ls := (⟨5, 1, 0, Req.zero, [], noTag⟩ : Bod).vals none 0) rfl rfl rfl (Rd.ofRow (.here _ _ _)) rfl rfl ?_
    refine H.Ak (ls := (Bod.zero 0).vals none 0) (vs := (⟨5, 1, 0, Req.zero, [], noTag⟩ : Bod).vals none 0) (ls' := (⟨5, 1, 0, Req.zero, [], noTag⟩ : Bod).vals none 0) rfl rfl rfl (zae rfl) rfl rfl (Nat.le_refl 76) (by repeat constructor) ?_
    refine gX ?_
    refine H.Ab (x := row bb _ _) (by repeat constructor) ?_
    refine H.Ab (x := row xb _ _) (by repeat constructor) ?_
    refine H.Aa (x := row kb _ _) (by repeat constructor) ?_
    refine H.Aa (x := row wb _ _) (by repeat constructor) ?_
    refine H.Aa (x := logsH _ _ _) (by repeat constructor) ?_
    refine H.Aa (x := row ob _ _) (by repeat constructor) ?_
    exact H.Bd (ls := (⟨5, 1, 0, Req.zero, [], noTag⟩ : Bod).vals none 0) rfl rfl rfl (Rd.ofRow (.here _ _ _)) rfl (fun _ s => s.drop (.here _ _)) ⟨nil0, none, 0, rfl, QAt.nil _ _, Dj.nil _, (un_nil _).symm, rfl⟩
   ·rw [show fix1 (((x.view.toNat % 6 : Nat) : Int)) = ((x.view.toNat % 6 : Nat) : Int) from if_neg hz]
    refine gZ ?_
    refine H.Ag (ls := (⟨5, ((x.view.toNat % 6 : Nat) : Int), 0, Req.zero, [], noTag⟩ : Bod).vals none 0) rfl rfl rfl (Rd.ofRow (.here _ _ _)) rfl rfl ?_
    refine H.Ak (ls := (Bod.zero 0).vals none 0) (vs := (⟨5, ((x.view.toNat % 6 : Nat) : Int), 0, Req.zero, [], noTag⟩ : Bod).vals none 0) (ls' := (⟨5, ((x.view.toNat % 6 : Nat) : Int), 0, Req.zero, [], noTag⟩ : Bod).vals none 0) rfl rfl rfl (zae rfl) rfl rfl (Nat.le_refl 76) (by repeat constructor) ?_
    refine gX ?_
    refine H.Ab (x := row bb _ _) (by repeat constructor) ?_
    refine H.Ab (x := row xb _ _) (by repeat constructor) ?_
    refine H.Aa (x := row kb _ _) (by repeat constructor) ?_
    refine H.Aa (x := row wb _ _) (by repeat constructor) ?_
    refine H.Aa (x := logsH _ _ _) (by repeat constructor) ?_
    refine H.Aa (x := row ob _ _) (by repeat constructor) ?_
    exact H.Bd (ls := (⟨5, ((x.view.toNat % 6 : Nat) : Int), 0, Req.zero, [], noTag⟩ : Bod).vals none 0) rfl rfl rfl (Rd.ofRow (.here _ _ _)) rfl (fun _ s => s.drop (.here _ _)) ⟨nil0, none, 0, rfl, QAt.nil _ _, Dj.nil _, (un_nil _).symm, rfl⟩
  ·have hr1 : (!x.raw) = true := by rw [hraw]; rfl
   have hb : x.bodK W n o 4 = (⟨5, fix1 (lastV W.l.vs), 0, Req.zero, [], noTag⟩ : Bod) := by simp [A15.bodK, hraw, Bod.zero]
   rw [hb]
   refine Fn.enter Tryz.func67 rfl Tryz.ntmps67 rfl (L := [(0, _), (1, _), (2, _)]) ⟨rfl, rfl, rfl, trivial⟩ fun base => ?_
   refine gA ?_
   refine H.box (ls := x.vals) rfl rfl rfl rfl fun xb => ?_
   refine H.Am (ls := (Bod.zero 0).vals none 0) rfl rfl rfl fun ob => ?_
   refine gK ?_
   refine H.rem rfl rfl rfl (by decide) hk6 rfl ?_
   refine gS ?_
   refine H.rem (z := ((x.view.toNat % 6 : Nat) : Int)) rfl rfl rfl (by decide) (zak (b := 6) rfl) rfl ?_
   refine gS ?_
   refine H.rem (z := ((x.k.toNat % 6 : Nat) : Int)) rfl rfl rfl (by decide) (zak (b := 6) rfl) rfl ?_
   repeat (first | (refine H.Bc (t := 52) (out := (bodW 5 ((x.view.toNat % 6 : Nat) : Int) (1 + ((x.k.toNat % 6 : Nat) : Int))).vals none 0) rfl rfl rfl (by kernel_rfl) rfl ?_) | ((first | (apply H.ar; (iterate 4 exact rfl)) | (apply H.Bh; (iterate 2 exact rfl))); (with_reducible apply wr_u64; omega); exact rfl))
   refine H.Am (ls := (Bod.zero 0).vals none 0) rfl rfl rfl fun bb => ?_
   refine H.Ak (ls := (Bod.zero 0).vals none 0) (vs := (bodW 5 ((x.view.toNat % 6 : Nat) : Int) (1 + ((x.k.toNat % 6 : Nat) : Int))).vals none 0) (ls' := (bodW 5 ((x.view.toNat % 6 : Nat) : Int) (1 + ((x.k.toNat % 6 : Nat) : Int))).vals none 0) rfl rfl rfl (zae rfl) rfl rfl (Nat.le_refl 76) (.here _ _ _) ?_
   refine gO ?_
   refine H.Aa (x := row wb _ _) (by repeat constructor) ?_
   refine H.Aa (x := logsH _ _ _) (by repeat constructor) ?_
   refine H.Ah rfl rfl rfl (hgr _) ?_
   refine H.Aa (x := row xb _ _) (by repeat constructor) ?_
   refine H.Aa (x := row bb _ _) (by repeat constructor) ?_
   refine H.Aa (x := logsH _ _ _) (by repeat constructor) ?_
   refine H.unpack fun i1 hi1 => ?_
   obtain ⟨V, vp, vc, pp, pc, cp, cc, pb, cs⟩ := i1
   have hiF := hi1.mono hfl
   show H _ _ _ _ _ (row lb 148 (lgC W.l.n W.l.known vp V.length vc pp pc cp cc) :: slc vp V.length vc 143 4 (V.flatMap VV.vals) :: lst (V.map VV.own) :: fam (fun r => pstH (pb r) (W.l.past r)) W.l.n :: slc cp W.l.n cc 184 1 (chRow W.l cs) :: fam (chFam W.l cs) W.l.n :: _) _
   have hvs : V.map VV.w = W.l.vs := hi1.vs
   have hVl : V.length = W.l.vs.length := hi1.len
   have hvl := hW.l.vl
   have hV0 : 0 < V.length := by
    obtain ⟨w0, hw0, _⟩ := hW.l.zero
    rw [hVl]
    exact List.length_pos_of_mem hw0
   obtain ⟨X, hX⟩ : ∃ X, V[V.length - 1]? = some X := ⟨_, List.getElem?_eq_getElem (by omega)⟩
   have hXv : lastV W.l.vs = X.w.v := by
    unfold lastV
    rw [← hVl, ← hvs, List.getElem?_map, hX]
    rfl
   rw [hXv]
   refine H.Bp (p := vp) (n0 := V.length) (c := vc) (T := 143) (sz := 4) (xs := V.flatMap VV.vals) (by repeat constructor) (by omega) fun vb hvb => ?_
   refine H.Aa (x := row xb _ _) (by repeat constructor) ?_
   refine H.Aa (x := row bb _ _) (by repeat constructor) ?_
   refine gZ ?_
   refine H.Aa (x := slc vp _ vc _ _ _) (by repeat constructor) ?_
   refine H.Aa (x := row lb _ _) (by repeat constructor) ?_
   refine H.Aa (x := row wb _ _) (by repeat constructor) ?_
   refine H.Bt [0, 1, 2, 3, 4, 5, 6, 7, 8, 9, 10, 11, 12, 13, 14, 15, 16, 17, 18] (by kernel_rfl) (by decide +kernel) (by repeat (first | exact zab | refine zaa ?_ | refine zac ?_ | refine zad ?_)) (S := [_, _, _]) rfl ?_
   refine HB.Af [(0, false), (1, false), (2, false), (3, false), (4, false), (5, false), (6, false), (7, false), (8, false), (9, false), (10, false), (11, false), (12, false), (13, false), (14, false), (15, false), (16, false), (17, false), (18, false)] 2 (by kernel_rfl) ?_
   refine gH ?_
   refine HQ.Ap (b := vb) (off := 0) (i := V.length - 1) rfl (by rw [← hvb]; rfl) rfl (show ((V.length : Int) - 1) = ((V.length - 1 : Nat) : Int) by omega) (show V.length - 1 < V.length by omega) rfl ?_
   refine gC ?_
   refine HQ.Ad rfl rfl rfl (Rd1.of (i := 0) (by rw [Nat.zero_add]; exact Rd.slcElem (n := V.length) (c := vc) (T := 143) (xs := V) VV.len (by decide) (by rw [← hvb]; exact .there _ (.there _ (.here _ _ _))) hX) rfl) rfl ?_
   refine HQ.Ae rfl ?_
   refine HB.next [] (by kernel_rfl) (S' := []) rfl ?_
   refine HB.Af [(19, false)] 1 (by kernel_rfl) ?_
   refine gC ?_
   refine HQ.Ae rfl ?_
   refine HB.ev1 (i := 20) (by kernel_rfl) rfl ?_
   refine H.Aa (x := row bb _ _) (by repeat constructor) ?_
   refine H.Bj (ls := (bodW 5 ((x.view.toNat % 6 : Nat) : Int) 0).vals none 0) (ls' := (bodW 5 X.w.v 0).vals none 0) rfl rfl rfl rfl (.here _ _ _) (.there _ (.here _ _ _)) ?_
   refine gA ?_
   refine H.on0 rfl ?_
   refine HB.Al (by kernel_rfl) ?_
   refine H.Aa (x := fam (chFam W.l cs) _) (by repeat constructor) ?_
   refine H.Aa (x := slc cp _ cc _ _ _) (by repeat constructor) ?_
   refine H.Aa (x := fam (fun r => pstH _ _) _) (by repeat constructor) ?_
   refine H.Aa (x := lst (V.map VV.own)) (by repeat constructor) ?_
   refine H.Aa (x := slc vp _ vc _ _ _) (by repeat constructor) ?_
   refine H.Aa (x := row lb _ _) (by repeat constructor) ?_
   refine H.imp (zah ⟨V, vp, vc, pp, pc, cp, cc, pb, cs⟩ hi1) ?_
   refine H.Aa (x := row xb _ _) (by repeat constructor) ?_
   refine H.Aa (x := row bb _ _) (by repeat constructor) ?_
   by_cases hz : X.w.v = 0
   ·rw [show fix1 (X.w.v) = 1 from if_pos hz]
    refine gZ ?_
    refine H.Ag (ls := (⟨5, 1, 0, Req.zero, [], noTag⟩ : Bod).vals none 0) rfl rfl rfl (Rd.ofRow (.here _ _ _)) rfl rfl ?_
    refine H.Ak (ls := (Bod.zero 0).vals none 0) (vs := (⟨5, 1, 0, Req.zero, [], noTag⟩ : Bod).vals none 0) (ls' := (⟨5, 1, 0, Req.zero, [], noTag⟩ : Bod).vals none 0) rfl rfl rfl (zae rfl) rfl rfl (Nat.le_refl 76) (by repeat constructor) ?_
    refine gX ?_
    refine H.Ab (x := row bb _ _) (by repeat constructor) ?_
    refine H.Ab (x := row xb _ _) (by repeat constructor) ?_
    refine H.Aa (x := row kb _ _) (by repeat constructor) ?_
    refine H.Aa (x := row wb _ _) (by repeat constructor) ?_
    refine H.Aa (x := logsH _ _ _) (by repeat constructor) ?_
    refine H.Aa (x := row ob _ _) (by repeat constructor) ?_
    exact H.Bd (ls := (⟨5, 1, 0, Req.zero, [], noTag⟩ : Bod).vals none 0) rfl rfl rfl (Rd.ofRow (.here _ _ _)) rfl (fun _ s => s.drop (.here _ _)) ⟨nil0, none, 0, rfl, QAt.nil _ _, Dj.nil _, (un_nil _).symm, rfl⟩
   ·rw [show fix1 (X.w.v) = X.w.v from if_neg hz]
    refine gc ?_
    refine H.Ag (ls := (⟨5, X.w.v, 0, Req.zero, [], noTag⟩ : Bod).vals none 0) rfl rfl rfl (Rd.ofRow (.here _ _ _)) rfl rfl ?_
    refine H.Ak (ls := (Bod.zero 0).vals none 0) (vs := (⟨5, X.w.v, 0, Req.zero, [], noTag⟩ : Bod).vals none 0) (ls' := (⟨5, X.w.v, 0, Req.zero, [], noTag⟩ : Bod).vals none 0) rfl rfl rfl (zae rfl) rfl rfl (Nat.le_refl 76) (by repeat constructor) ?_
    refine gX ?_
    refine H.Ab (x := row bb _ _) (by repeat constructor) ?_
    refine H.Ab (x := row xb _ _) (by repeat constructor) ?_
    refine H.Aa (x := row kb _ _) (by repeat constructor) ?_
    refine H.Aa (x := row wb _ _) (by repeat constructor) ?_
    refine H.Aa (x := logsH _ _ _) (by repeat constructor) ?_
    refine H.Aa (x := row ob _ _) (by repeat constructor) ?_
    exact H.Bd (ls := (⟨5, X.w.v, 0, Req.zero, [], noTag⟩ : Bod).vals none 0) rfl rfl rfl (Rd.ofRow (.here _ _ _)) rfl (fun _ s => s.drop (.here _ _)) ⟨nil0, none, 0, rfl, QAt.nil _ _, Dj.nil _, (un_nil _).symm, rfl⟩
 ·have hk6 : ((x.kind.toNat : Nat) : Int).tmod 6 = 5 := zak (b := 6) h
  rw [h]
  show Fn _ _ _ f _ (BodP f _ (⟨6, 0, (1 + ((x.k.toNat % 6 : Nat) : Int)), Req.zero, [], dig0 x.key⟩ : Bod))
  refine Fn.enter Tryz.func67 rfl Tryz.ntmps67 rfl (L := [(0, _), (1, _), (2, _)]) ⟨rfl, rfl, rfl, trivial⟩ fun base => ?_
  refine gA ?_
  refine H.box (ls := x.vals) rfl rfl rfl rfl fun xb => ?_
  refine H.Am (ls := (Bod.zero 0).vals none 0) rfl rfl rfl fun ob => ?_
  refine gK ?_
  refine H.rem rfl rfl rfl (by decide) hk6 rfl ?_
  refine gS ?_
  refine H.rem (z := ((x.view.toNat % 6 : Nat) : Int)) rfl rfl rfl (by decide) (zak (b := 6) rfl) rfl ?_
  refine gS ?_
  refine H.rem (z := ((x.k.toNat % 6 : Nat) : Int)) rfl rfl rfl (by decide) (zak (b := 6) rfl) rfl ?_
  repeat (first | (refine H.Bc (t := 52) (out := (bodW 6 ((x.view.toNat % 6 : Nat) : Int) (1 + ((x.k.toNat % 6 : Nat) : Int))).vals none 0) rfl rfl rfl (by kernel_rfl) rfl ?_) | ((first | (apply H.ar; (iterate 4 exact rfl)) | (apply H.Bh; (iterate 2 exact rfl))); (with_reducible apply wr_u64; omega); exact rfl))
  refine H.Am (ls := (Bod.zero 0).vals none 0) rfl rfl rfl fun bb => ?_
  refine H.Ak (ls := (Bod.zero 0).vals none 0) (vs := (bodW 6 ((x.view.toNat % 6 : Nat) : Int) (1 + ((x.k.toNat % 6 : Nat) : Int))).vals none 0) (ls' := (bodW 6 ((x.view.toNat % 6 : Nat) : Int) (1 + ((x.k.toNat % 6 : Nat) : Int))).vals none 0) rfl rfl rfl (zae rfl) rfl rfl (Nat.le_refl 76) (.here _ _ _) ?_
  refine gO ?_
  refine H.Aa (x := row wb _ _) (by repeat constructor) ?_
  refine H.Aa (x := logsH _ _ _) (by repeat constructor) ?_
  refine H.Ah rfl rfl rfl (hgr _) ?_
  refine H.Aa (x := row xb _ _) (by repeat constructor) ?_
  refine H.Aa (x := row bb _ _) (by repeat constructor) ?_
  refine gY ?_
  refine H.Ba (i := 0) rfl rfl rfl rfl (by decide) rfl ?_
  refine gZ ?_
  refine H.Ag (ls := (⟨6, 0, (1 + ((x.k.toNat % 6 : Nat) : Int)), Req.zero, [], dig0 x.key⟩ : Bod).vals none 0) rfl rfl rfl (Rd.ofRow (.here _ _ _)) rfl rfl ?_
  refine H.Ak (ls := (Bod.zero 0).vals none 0) (vs := (⟨6, 0, (1 + ((x.k.toNat % 6 : Nat) : Int)), Req.zero, [], dig0 x.key⟩ : Bod).vals none 0) (ls' := (⟨6, 0, (1 + ((x.k.toNat % 6 : Nat) : Int)), Req.zero, [], dig0 x.key⟩ : Bod).vals none 0) rfl rfl rfl (zae rfl) rfl rfl (Nat.le_refl 76) (by repeat constructor) ?_
  refine gX ?_
  refine H.Ab (x := row bb _ _) (by repeat constructor) ?_
  refine H.Ab (x := row xb _ _) (by repeat constructor) ?_
  refine H.Aa (x := row kb _ _) (by repeat constructor) ?_
  refine H.Aa (x := row wb _ _) (by repeat constructor) ?_
  refine H.Aa (x := logsH _ _ _) (by repeat constructor) ?_
  refine H.Aa (x := row ob _ _) (by repeat constructor) ?_
  exact H.Bd (ls := (⟨6, 0, (1 + ((x.k.toNat % 6 : Nat) : Int)), Req.zero, [], dig0 x.key⟩ : Bod).vals none 0) rfl rfl rfl (Rd.ofRow (.here _ _ _)) rfl (fun _ s => s.drop (.here _ _)) ⟨nil0, none, 0, rfl, QAt.nil _ _, Dj.nil _, (un_nil _).symm, rfl⟩
end
structure W15P where
 kb : Nat
 lb : Nat
 ap : Option Addr
 ac : Nat
 l : List MV
def w15φ (e : Frag) (W : W15) (i : W15P) : Prop := i.l.map MV.m = W.w.all ∧ ∀ y ∈ i.l, y.Good e
def w15B (e : Frag) (wb n : Nat) (W : W15) (i : W15P) : List HP := [row wb 37 (w15C i.kb n i.ap i.l.length i.ac i.lb), row i.kb 44 (kRow n W.w.kv), slc i.ap i.l.length i.ac 54 121 (i.l.flatMap MV.vals), logsH e i.lb W.l]
def wH15 (e : Frag) (wb n : Nat) (W : W15) : HP := pack (w15φ e W) (w15B e wb n W)
theorem w15_fold {e : Frag} {F : List HP} {wb n : Nat} {W : W15} (i : W15P) (h : w15φ e W i) : ∀ x, stars (w15B e wb n W i ++ F) x → stars (wH15 e wb n W :: F) x := fun x hx => pack_fold (φ := w15φ e W) (B := w15B e wb n W) i h x hx
theorem w15_mono {f g : Frag} (h : Le f g) {wb n : Nat} {W : W15} : ∀ x, wH15 f wb n W x → wH15 g wb n W x := fun _ ⟨i, hi, hx⟩ => ⟨i, ⟨hi.1, fun y hy => (hi.2 y hy).mono h⟩, by
 obtain ⟨m1, m2, d1, e1, a1, m3, m4, d2, e2, a2, m5, m6, d3, e3, a3, m7, m8, d4, e4, a4, r4⟩ := hx
 exact ⟨m1, m2, d1, e1, a1, m3, m4, d2, e2, a2, m5, m6, d3, e3, a3, m7, m8, d4, e4, logsH_mono h _ a4, r4⟩⟩
theorem w15_up {f g : Frag} (h : Le f g) {wb n : Nat} {W : W15} {A : List HP} : ∀ x, stars (wH15 f wb n W :: A) x → stars (wH15 g wb n W :: A) x := fun _ ⟨h1, h2, hd, he, ha, hr⟩ => ⟨h1, h2, hd, he, w15_mono h _ ha, hr⟩
def DoP (f : Frag) (F : List HP) (wb n : Nat) (W : W15) : Value → Frag → List HP → Prop := fun v f' A' => ∃ (g : Frag) (u : Value), Dj f g ∧ v = u ∧ f' = un f g ∧ A' = wH15 f' wb n W :: F
section
variable (f : Frag) (F : List HP)
set_option maxRecDepth 20000 in
set_option maxHeartbeats 3200000 in
theorem do_fn {fl : Frag} (hfl : Le fl f) {wb n : Nat} {W : W15} {T : Nat} (hn3 : 3 ≤ n ∧ n ≤ 11) (hW : WI n W T) (hT : T ≤ 900) (hal : W.w.all.length ≤ 900) {x : A15} (hx : x.Has f) (hq20 : x.q.length ≤ 20) :
  Fn Tryz.prog 42 [.pointer (some ⟨wb, 0, none⟩), .agg x.vals.toArray] f (wH15 fl wb n W :: F) (DoP f F wb n (W.act n x)) := by
 refine Fn.unpack fun i0 hi => ?_
 obtain ⟨kb, lb, ap, ac, l⟩ := i0
 have hlm : l.map MV.m = W.w.all := hi.1
 have hlg : ∀ y ∈ l, y.Good fl := hi.2
 have hll : l.length ≤ 900 := by
  have := congrArg List.length hlm
  rw [List.length_map] at this
  omega
 have hn0 : ((n : Nat) : Int) ≠ 0 := by omega
 have ho : x.who.toNat % n < n := Nat.mod_lt _ (by omega)
 have hkv := hW.w.kv_le ho
 have hwho := x.who.toNat_lt
 have hoth := x.other.toNat_lt
 have hj : x.other.toNat % n < n := Nat.mod_lt _ (by omega)
 show Fn _ _ _ f (row wb 37 (w15C kb n ap l.length ac lb) :: row kb 44 (kRow n W.w.kv) :: slc ap l.length ac 54 121 (l.flatMap MV.vals) :: logsH fl lb W.l :: F) _
 refine Fn.enter Tryz.func42 rfl Tryz.ntmps42 rfl (L := [(0, _), (1, _)]) ⟨rfl, rfl, trivial⟩ fun base => ?_
 refine gA ?_
 refine H.box (ls := x.vals) rfl rfl rfl rfl fun xb => ?_
 refine H.Am (ls := msgZ.vals none 0) rfl rfl rfl fun ob => ?_
 refine gK ?_
 refine H.rem (z := ((x.who.toNat % n : Nat) : Int)) rfl rfl rfl hn0 (zak (a := x.who.toNat) (b := n) rfl) rfl ?_
 refine gK ?_
 cases hmt : x.meet with
 | true =>
  have hact : W.act n x = { W with w := W.w.meet (x.who.toNat % n) (x.other.toNat % n) } := by unfold W15.act; rw [if_pos hmt]
  rw [hact]
  refine gc ?_
  refine H.rem (z := ((x.other.toNat % n : Nat) : Int)) rfl rfl rfl hn0 (zak (a := x.other.toNat) (b := n) rfl) rfl ?_
  refine gX ?_
  generalize hoe : x.who.toNat % n = o at *
  generalize hje : x.other.toNat % n = j at *
  have ho11 : o < 11 := by omega
  refine H.Aa (x := row kb _ _) (by repeat constructor) ?_
  refine H.Aa (x := row wb _ _) (by repeat constructor) ?_
  refine H.Aw (ι := Nat) (fun i => [(8, .int .i64 (i : Int)), (6, .int .i64 (1 + (o : Int))), (7, .int .i64 (j : Int)), (0, .pointer (some ⟨wb, 0, none⟩)), (4, .pointer (some ⟨ob, 0, none⟩))]) (fun _ => f)
   (fun i => row wb 37 (w15C kb n ap l.length ac lb) :: row kb 44 (kRow n (raised W.w.kv o j i)) :: row ob 54 (msgZ.vals none 0) :: row xb 98 x.vals :: slc ap l.length ac 54 121 (l.flatMap MV.vals) :: logsH fl lb W.l :: F)
   (fun i => i ≤ 11) (fun i => 11 - i) 0 (Nat.zero_le _) ⟨rfl, rfl, rfl, rfl, rfl, trivial⟩ rfl (by rw [raised_zero]) fun i hi2 => ?_
  have hi2 : i ≤ 11 := hi2
  by_cases hi11 : i < 11
  ·have hro := raised_o W.w.kv o j i
   have hrj := raised_j W.w.kv o j i
   have hrn := raised_next W.w.kv o j i
   have hg1 := kRow_get (kv := raised W.w.kv o j i) ho hi11
   have hg2 := kRow_get (kv := raised W.w.kv o j i) hj hi11
   rw [hro] at hg1
   rw [hrj] at hg2
   have hset := kRow_set (kv := raised W.w.kv o j i) (maxV (W.w.kv o) (W.w.kv j) i) ho hi11
   rw [hrn] at hset
   have hoo : (1 : Int) + (o : Int) - 1 = (o : Nat) := by omega
   refine gI ?_
   refine H.Bt [0, 1, 2, 3, 4, 5, 6, 7, 8, 9, 10, 11, 12, 13, 14, 15, 16, 17, 18, 19, 20, 21, 22, 23, 24, 25, 26, 27, 28] (by kernel_rfl) (by decide +kernel) (by repeat (first | exact zab | refine zaa ?_ | refine zac ?_ | refine zad ?_)) (S := [_, _]) rfl ?_
   refine HB.Af [(0, false), (1, false), (2, false), (3, false), (4, false), (5, false), (6, false), (7, false), (8, false), (9, false), (10, false), (11, false), (12, false), (13, false), (14, false), (15, false), (16, false), (17, false), (18, false), (19, false), (20, false), (21, false), (22, false), (23, false), (24, false), (25, false), (26, false), (27, false), (28, false)] 1 (by kernel_rfl) ?_
   refine gH ?_
   refine HQ.Ap (i := o) rfl rfl rfl hoo ho rfl ?_
   refine HQ.Ba (i := i) rfl rfl rfl rfl hi11 rfl ?_
   refine HQ.Ad rfl rfl rfl (.at0 (Rd.ofRow (.there _ (.here _ _ _))) (by rw [Nat.zero_add, Nat.mul_one]; exact hg1)) rfl ?_
   refine gE ?_
   refine HQ.Ap (i := j) rfl rfl rfl rfl hj rfl ?_
   refine HQ.Ba (i := i) rfl rfl rfl rfl hi11 rfl ?_
   refine HQ.Ad rfl rfl rfl (.at0 (Rd.ofRow (.there _ (.here _ _ _))) (by rw [Nat.zero_add, Nat.mul_one]; exact hg2)) rfl ?_
   refine HQ.max2 (z := maxV (W.w.kv o) (W.w.kv j) i) rfl rfl rfl rfl rfl ?_
   refine HQ.Ap (i := o) rfl rfl rfl hoo ho rfl ?_
   refine HQ.Ba (i := i) rfl rfl rfl rfl hi11 rfl ?_
   refine HQ.Ae rfl ?_
   refine HB.next [] (by kernel_rfl) (S' := []) rfl ?_
   refine HB.ev1 (i := 29) (by kernel_rfl) rfl ?_
   refine H.Bj (v := .int .u64 (maxV (W.w.kv o) (W.w.kv j) i)) (ls := kRow n (raised W.w.kv o j i)) (ls' := kRow n (raised W.w.kv o j (i + 1))) rfl rfl rfl rfl (.there _ (.here _ _ _)) (by rw [Nat.zero_add, Nat.mul_one]; exact hset) ?_
   refine gA ?_
   refine H.on0 rfl ?_
   refine HB.Al (by kernel_rfl) ?_
   refine ge ?_
   exact H.Ao (i + 1) (by show i + 1 ≤ 11; omega) (by show 11 - (i + 1) < 11 - i; omega) ⟨rfl, rfl, rfl, rfl, rfl, trivial⟩ rfl rfl
  ·have e : i = 11 := by omega
   subst e
   rw [raised_end]
   repeat (first | (refine H.Bc (t := 54) (out := msgZ.vals none 0) rfl rfl rfl (by kernel_rfl) rfl ?_) | ((apply H.Aj); (iterate 3 exact rfl)) | (first | apply H.seq | apply H.Au | apply H.nil | apply H.Av) | ((apply H.cmp); (iterate 5 exact rfl)) | (apply H.Cg; exact rfl) | (first | apply H.By | apply H.exit | apply H.Bw | apply H.Ca))
   refine H.Ak (ls := msgZ.vals none 0) (vs := msgZ.vals none 0) (ls' := msgZ.vals none 0) rfl rfl rfl (zae rfl) rfl rfl (Nat.le_refl 121) (by repeat constructor) ?_
   refine gX ?_
   refine H.Ab (x := row xb _ _) (by repeat constructor) ?_
   refine H.Aa (x := row ob _ _) (by repeat constructor) ?_
   exact H.Bd (ls := msgZ.vals none 0) rfl rfl rfl (Rd.ofRow (.here _ _ _)) rfl (fun _ s => (s.drop (.here _ _)).imp (fun z hz => w15_up hfl z (w15_fold (W := { W with w := W.w.meet o j }) ⟨kb, lb, ap, ac, l⟩ ⟨hlm, hlg⟩ z hz))) ⟨nil0, _, Dj.nil _, rfl, (un_nil f).symm, rfl⟩
 | false =>
  refine gR ?_
  generalize hoe : x.who.toNat % n = o at *
  have ho11 : o < 11 := by omega
  have hoo : (1 : Int) + (o : Int) - 1 = (o : Nat) := by omega
  have ho1 : (1 : Int) + (o : Int) = ((o + 1 : Nat) : Int) := by omega
  have hact : W.act n x = if (W.next n o x).may = true then ⟨W.w.say o (W.next n o x).signed, (W.l.take (W.next n o x).signed).2⟩ else W := by
   unfold W15.act
   rw [if_neg (by rw [hmt]; decide), hoe]
  have hgk0 := kRow_get (kv := W.w.kv) ho ho11
  have hko := hkv o
  have hbody := fun G => body15_fn f G hfl (wb := wb) (kb := kb) (lb := lb) hW (by omega) (ap := ap) (m := l.length) (ac := ac) ho hx hq20
  refine H.Aa (x := logsH _ _ _) (by repeat constructor) ?_
  refine H.Aa (x := row kb _ _) (by repeat constructor) ?_
  refine H.Aa (x := row wb _ _) (by repeat constructor) ?_
  refine H.Aa (x := row xb _ _) (by repeat constructor) ?_
  refine H.cut (ι := Frag × Option Addr × Nat × Nat) (fun s => [(9, .pointer (some ⟨s.2.2.2, 0, none⟩)), (6, .int .i64 (1 + (o : Int))), (0, .pointer (some ⟨wb, 0, none⟩)), (4, .pointer (some ⟨ob, 0, none⟩))]) (fun s => un f s.1)
   (fun s => row xb 98 x.vals :: row s.2.2.2 54 ((W.next n o x).vals s.2.1 s.2.2.1) :: row ob 54 (msgZ.vals none 0) :: row wb 37 (w15C kb n ap l.length ac lb) :: row kb 44 (kRow n W.w.kv) :: logsH fl lb W.l :: slc ap l.length ac 54 121 (l.flatMap MV.vals) :: F)
   (fun s => QAt (un f s.1) s.2.1 (W.next n o x).body.q ∧ Dj f s.1) _ (fun s hs => ?_) ?_
  ·obtain ⟨g, qp, qc, mb⟩ := s
   obtain ⟨hqat, hd⟩ : QAt (un f g) qp (W.next n o x).body.q ∧ Dj f g := hs
   have hle2 := Le.un f g
   have hql := (x.bod_q hW (by omega) (o := o)).1
   have hgood : (⟨W.next n o x, qp, qc⟩ : MV).Good (un f g) := ⟨hqat, by show (x.bod W n o).q.length ≤ _; omega, A15.bod_ok hW (by omega) ho x⟩
   have hmsg := good_signed hgood
   have hmay := fun H => rmmay_fn (un f g) H hgood
   have hsg := fun H => rtagged_fn (un f g) H (m := W.next n o x) (q := qp) (qc := qc) hgood.1 (by show (x.bod W n o).q.length ≤ _; omega)
   show H _ _ _ [_, _, _, _] (un f g) (_ :: row mb _ ((W.next n o x).vals qp qc) :: _ :: _ :: _ :: _ :: _ :: F) _
   refine gA ?_
   refine H.Ag (ls := (W.next n o x).vals qp qc) rfl rfl rfl (Rd.ofRow (.there _ (.here _ _ _))) rfl rfl ?_
   refine H.Ah rfl rfl rfl (hmay _) ?_
   refine H.not (b := _) (c := _) rfl rfl rfl rfl ?_
   cases hmy : (W.next n o x).may with
   | false =>
    rw [hact, if_neg (by rw [hmy]; decide)]
    repeat (first | (refine H.Bc (t := 54) (out := msgZ.vals none 0) rfl rfl rfl (by kernel_rfl) rfl ?_) | (first | apply H.seq | apply H.Au | apply H.nil | apply H.Av) | (apply H.Ch; exact rfl))
    refine H.Ak (ls := msgZ.vals none 0) (vs := msgZ.vals none 0) (ls' := msgZ.vals none 0) rfl rfl rfl (zae rfl) rfl rfl (Nat.le_refl 121) (by repeat constructor) ?_
    refine gX ?_
    refine H.Ab (x := row xb _ _) (by repeat constructor) ?_
    refine H.Ab (x := row mb _ _) (by repeat constructor) ?_
    refine H.Aa (x := slc ap _ ac _ _ _) (by repeat constructor) ?_
    refine H.Aa (x := row kb _ _) (by repeat constructor) ?_
    refine H.Aa (x := row wb _ _) (by repeat constructor) ?_
    refine H.Aa (x := row ob _ _) (by repeat constructor) ?_
    exact H.Bd (ls := msgZ.vals none 0) rfl rfl rfl (Rd.ofRow (.here _ _ _)) rfl (fun _ s => (s.drop (.here _ _)).imp (fun z hz => w15_up (hfl.trans hle2) z (w15_fold ⟨kb, lb, ap, ac, l⟩ ⟨hlm, hlg⟩ z hz))) ⟨g, _, hd, rfl, rfl, rfl⟩
   | true =>
    rw [hact, if_pos hmy]
    generalize hms : (W.next n o x).signed = ms at *
    have htake := fun H => take_fn (un f g) H (hfl.trans hle2) (lb := lb) hW.l (by omega) (x := ⟨ms, qp, qc⟩) hmsg
    refine gR ?_
    refine H.Ag (ls := (W.next n o x).vals qp qc) rfl rfl rfl (Rd.ofRow (.there _ (.here _ _ _))) rfl rfl ?_
    refine H.Ah rfl rfl rfl (hsg _) ?_
    refine H.Ak (ls := (W.next n o x).vals qp qc) (vs := ms.vals qp qc) (ls' := ms.vals qp qc) rfl rfl rfl (zae rfl) rfl rfl (Nat.le_refl 121) (.there _ (.here _ _ _)) ?_
    refine gA ?_
    refine H.Aa (x := row wb _ _) (by repeat constructor) ?_
    refine H.Aa (x := row mb _ _) (by repeat constructor) ?_
    refine H.Ay (by kernel_rfl) (by decide +kernel) (by repeat (first | exact zab | refine zaa ?_ | refine zac ?_ | refine zad ?_)) (S := [_, _]) rfl ?_
    refine HB.Af [(0, false), (1, false), (2, false), (3, false), (4, false)] 1 (by kernel_rfl) ?_
    refine gE ?_
    refine HQ.Ag (ls := ms.vals qp qc) rfl rfl rfl (Rd.ofRow (.here _ _ _)) rfl rfl ?_
    refine HQ.Ae rfl ?_
    refine HB.ev1 (i := 5) (by kernel_rfl) rfl ?_
    refine H.Aa (x := logsH _ _ _) (by repeat constructor) ?_
    refine H.call rfl rfl rfl (htake _) fun v f' A' hr => ?_
    obtain ⟨g2, hd2, rfl, rfl, rfl⟩ := hr
    refine gA ?_
    refine H.Aa (x := row wb _ _) (by repeat constructor) ?_
    refine H.Aa (x := row mb _ _) (by repeat constructor) ?_
    refine H.on [] (Le.un _ g2) rfl ?_
    refine HB.Al (by kernel_rfl) ?_
    refine gA ?_
    refine H.Bt [0, 1, 2, 3, 4, 5, 6, 7] (by kernel_rfl) (by decide +kernel) (by repeat (first | exact zab | refine zaa ?_ | refine zac ?_ | refine zad ?_)) (S := [_, _]) rfl ?_
    refine HB.Af [(0, false), (1, false), (2, false), (3, false), (4, false), (5, false)] 5 (by kernel_rfl) ?_
    refine gE ?_
    refine HQ.Ag (ls := ms.vals qp qc) rfl rfl rfl (Rd.ofRow (.here _ _ _)) rfl rfl ?_
    refine HQ.Ae rfl ?_
    refine HB.ev1 (i := 6) (by kernel_rfl) rfl ?_
    refine H.Be (out := ms.vals qp qc) rfl rfl rfl rfl (by decide) (by decide) rfl rfl fun eb => ?_
    refine gA ?_
    refine H.Aa (x := row wb _ _) (by repeat constructor) ?_
    refine H.Aa (x := row mb _ _) (by repeat constructor) ?_
    refine H.on0 rfl ?_
    refine HB.ev1 (i := 7) (by kernel_rfl) rfl ?_
    refine H.Bf (sz := 121) (p := ap) (n0 := l.length) (c := ac) (xs := l.flatMap MV.vals) (m := 1) (news := ms.vals qp qc) rfl rfl rfl rfl rfl (fun p' c' => (by repeat constructor)) (Src.slice (Rd.ofRow (by repeat constructor)) rfl) (zae rfl) rfl (by omega) (by omega) fun ap2 ac2 => ?_
    refine gA ?_
    refine H.Ab (x := row eb _ _) (by repeat constructor) ?_
    refine H.on0 rfl ?_
    refine HB.next [] (by kernel_rfl) (S' := []) rfl ?_
    refine HB.Af [(8, false), (9, false)] 1 (by kernel_rfl) ?_
    refine gE ?_
    refine HQ.Ae rfl ?_
    refine HB.ev1 (i := 10) (by kernel_rfl) rfl ?_
    refine H.Bj (ls := w15C kb n ap l.length ac lb) (ls' := w15C kb n ap2 (l.length + 1) ac2 lb) rfl rfl rfl rfl (.there _ (.here _ _ _)) (.there _ (.here _ _ _)) ?_
    refine gA ?_
    refine H.on0 rfl ?_
    refine HB.Al (by kernel_rfl) ?_
    refine gA ?_
    have hset := kRow_set (kv := W.w.kv) (W.w.kv o o + 1) ho ho11
    refine H.Aa (x := row kb _ _) (by repeat constructor) ?_
    refine H.Aa (x := row wb _ _) (by repeat constructor) ?_
    refine H.Bt [0, 1, 2, 3, 4, 5, 6, 7, 8, 9, 10, 11, 12, 13] (by kernel_rfl) (by decide +kernel) (by repeat (first | exact zab | refine zaa ?_ | refine zac ?_ | refine zad ?_)) (S := [_, _]) rfl ?_
    refine HB.Af [(0, false), (1, false), (2, false), (3, false), (4, false), (5, false), (6, false), (7, false), (8, false), (9, false), (10, false), (11, false), (12, false), (13, false)] 1 (by kernel_rfl) ?_
    refine gH ?_
    refine HQ.Ap (i := o) rfl rfl rfl hoo ho rfl ?_
    refine HQ.Ba (i := o) rfl rfl rfl hoo ho11 rfl ?_
    refine HQ.Ad rfl rfl rfl (.at0 (Rd.ofRow (.there _ (.here _ _ _))) (by rw [Nat.zero_add, Nat.mul_one]; exact hgk0)) rfl ?_
    refine gL ?_
    refine HQ.Ap (i := o) rfl rfl rfl hoo ho rfl ?_
    refine HQ.Ba (i := o) rfl rfl rfl hoo ho11 rfl ?_
    refine HQ.Ae rfl ?_
    refine HB.next [] (by kernel_rfl) (S' := []) rfl ?_
    refine HB.ev1 (i := 14) (by kernel_rfl) rfl ?_
    refine H.Bj (v := .int .u64 (W.w.kv o o + 1)) (ls := kRow n W.w.kv) (ls' := kRow n (W.w.say o ms).kv) rfl rfl rfl rfl (.there _ (.here _ _ _)) (by rw [Nat.zero_add, Nat.mul_one]; exact hset) ?_
    refine gA ?_
    refine H.on0 rfl ?_
    refine HB.Al (by kernel_rfl) ?_
    refine gA ?_
    refine H.Aa (x := row mb _ _) (by repeat constructor) ?_
    refine H.Ag (ls := ms.vals qp qc) rfl rfl rfl (Rd.ofRow (.here _ _ _)) rfl rfl ?_
    refine H.Ak (ls := msgZ.vals none 0) (vs := ms.vals qp qc) (ls' := ms.vals qp qc) rfl rfl rfl (zae rfl) rfl rfl (Nat.le_refl 121) (by repeat constructor) ?_
    refine gX ?_
    refine H.Ab (x := row xb _ _) (by repeat constructor) ?_
    refine H.Ab (x := row mb _ _) (by repeat constructor) ?_
    refine H.Aa (x := logsH _ _ _) (by repeat constructor) ?_
    refine H.Aa (x := slc ap2 _ ac2 _ _ _) (by repeat constructor) ?_
    refine H.Aa (x := row kb _ _) (by repeat constructor) ?_
    refine H.Aa (x := row wb _ _) (by repeat constructor) ?_
    refine H.Aa (x := row ob _ _) (by repeat constructor) ?_
    have hle3 := Le.un (un f g) g2
    have hφ : w15φ (un (un f g) g2) ⟨W.w.say o ms, (W.l.take ms).2⟩ ⟨kb, lb, ap2, ac2, l ++ [⟨ms, qp, qc⟩]⟩ := by
     refine ⟨?_, fun y hy => ?_⟩
     ·show (l ++ [(⟨ms, qp, qc⟩ : MV)]).map MV.m = W.w.all ++ [ms]
      rw [List.map_append, hlm]
      rfl
     ·rcases List.mem_append.1 hy with h | h
      ·exact (hlg y h).mono ((hfl.trans hle2).trans hle3)
      ·rw [List.mem_singleton.1 h]; exact hmsg.mono hle3
    have hsl : slc ap2 (l.length + 1) ac2 54 121 (l.flatMap MV.vals ++ ms.vals qp qc) = slc ap2 (l ++ [(⟨ms, qp, qc⟩ : MV)]).length ac2 54 121 ((l ++ [(⟨ms, qp, qc⟩ : MV)]).flatMap MV.vals) := slc_snoc (y := (⟨ms, qp, qc⟩ : MV))
    have hfold := w15_fold (F := F) (wb := wb) (n := n) _ hφ
    exact H.Bd (ls := ms.vals qp qc) rfl rfl rfl (Rd.ofRow (.here _ _ _)) rfl (fun _ s => (s.drop (.here _ _)).imp (fun z hz => hfold z (by
     rw [hsl] at hz
     show stars (row wb _ (w15C kb n ap2 (l ++ [(⟨ms, qp, qc⟩ : MV)]).length ac2 lb) :: _) z
     rw [List.length_append]
     rw [List.length_append] at hz
     exact hz))) ⟨un g g2, _, Dj.un3' hd hd2, rfl, un_assoc _ _ _, rfl⟩
  ·refine H.Ay (by kernel_rfl) (by decide +kernel) (by repeat (first | exact zab | refine zaa ?_ | refine zac ?_ | refine zad ?_)) (S := [_, _, _]) rfl ?_
   refine HB.Af [(0, false), (1, false), (2, false), (3, false), (4, false), (5, false), (6, false), (7, false), (8, false), (9, false), (10, false), (11, false), (12, false), (13, false), (14, false), (15, false), (16, false), (17, false), (18, false), (19, false), (20, false), (21, false), (22, false), (23, false)] 4 (by kernel_rfl) ?_
   refine gH ?_
   refine HQ.Ap (i := o) rfl rfl rfl hoo ho rfl ?_
   refine HQ.Ba (i := o) rfl rfl rfl hoo ho11 rfl ?_
   refine HQ.Ad rfl rfl rfl (.at0 (Rd.ofRow (.there _ (.there _ (.here _ _ _)))) (by rw [Nat.zero_add, Nat.mul_one]; exact hgk0)) rfl ?_
   refine gH ?_
   refine HQ.Ap (i := o) rfl rfl rfl hoo ho rfl ?_
   refine HQ.Ag (ls := v11 (W.w.kv o)) rfl rfl rfl (by rw [Nat.zero_add]; exact Rd.kRow (Rd.ofRow (.there _ (.there _ (.here _ _ _)))) ho) rfl rfl ?_
   refine gB ?_
   refine HQ.Ag (ls := x.vals) rfl rfl rfl (Rd.ofRow (.here _ _ _)) rfl rfl ?_
   refine HQ.Ae rfl ?_
   refine HB.ev2 (i := 24) (j := 26) (by kernel_rfl) rfl rfl ?_ ?_
   ·refine H.Aa (x := row kb _ _) (by repeat constructor) ?_
    refine H.Aa (x := row wb _ _) (by repeat constructor) ?_
    refine H.Aa (x := logsH _ _ _) (by repeat constructor) ?_
    rw [ho1]
    refine H.call rfl rfl rfl (hbody _) fun v f' A' hr => ?_
    obtain ⟨g, qp, qc, rfl, hqat, hd, rfl, rfl⟩ := hr
    refine gA ?_
    refine H.Aa (x := row kb _ _) (by repeat constructor) ?_
    refine H.Aa (x := row wb _ _) (by repeat constructor) ?_
    refine H.Aa (x := row xb _ _) (by repeat constructor) ?_
    refine H.on [] (Le.un _ g) rfl ?_
    refine HB.Af [(25, false)] 2 (by kernel_rfl) ?_
    refine HQ.Bc (t := 54) (out := (W.next n o x).vals qp qc) rfl rfl rfl (by kernel_rfl) rfl ?_
    refine HQ.Ae rfl ?_
    refine HB.ev1 (i := 26) (by kernel_rfl) rfl ?_
    refine H.Am (ls := msgZ.vals none 0) rfl rfl rfl fun mb => ?_
    refine gA ?_
    refine H.Aa (x := row kb _ _) (by repeat constructor) ?_
    refine H.Aa (x := row wb _ _) (by repeat constructor) ?_
    refine H.Aa (x := row xb _ _) (by repeat constructor) ?_
    refine H.on0 rfl ?_
    refine HB.ev1 (i := 27) (by kernel_rfl) rfl ?_
    refine H.Ak (ls := msgZ.vals none 0) (vs := (W.next n o x).vals qp qc) (ls' := (W.next n o x).vals qp qc) rfl rfl rfl (zae rfl) rfl rfl (Nat.le_refl 121) (by repeat constructor) ?_
    refine gA ?_
    refine H.on0 rfl ?_
    refine HB.Al (by kernel_rfl) ?_
    refine H.Aa (x := slc ap _ ac _ _ _) (by repeat constructor) ?_
    refine H.Aa (x := logsH _ _ _) (by repeat constructor) ?_
    refine H.Aa (x := row kb _ _) (by repeat constructor) ?_
    refine H.Aa (x := row wb _ _) (by repeat constructor) ?_
    refine H.Aa (x := row ob _ _) (by repeat constructor) ?_
    refine H.Aa (x := row mb _ _) (by repeat constructor) ?_
    refine H.Aa (x := row xb _ _) (by repeat constructor) ?_
    exact H.meet (g, qp, qc, mb) ⟨hqat, hd⟩ ⟨rfl, rfl, rfl, rfl, trivial⟩ rfl rfl
   ·refine H.Am (ls := msgZ.vals none 0) rfl rfl rfl fun mb => ?_
    refine gA ?_
    refine H.Aa (x := row kb _ _) (by repeat constructor) ?_
    refine H.Aa (x := row wb _ _) (by repeat constructor) ?_
    refine H.Aa (x := row xb _ _) (by repeat constructor) ?_
    refine H.on0 rfl ?_
    refine HB.ev1 (i := 24) (by kernel_rfl) rfl ?_
    refine H.Aa (x := row kb _ _) (by repeat constructor) ?_
    refine H.Aa (x := row wb _ _) (by repeat constructor) ?_
    refine H.Aa (x := logsH _ _ _) (by repeat constructor) ?_
    rw [ho1]
    refine H.call rfl rfl rfl (hbody _) fun v f' A' hr => ?_
    obtain ⟨g, qp, qc, rfl, hqat, hd, rfl, rfl⟩ := hr
    refine gA ?_
    refine H.Aa (x := row kb _ _) (by repeat constructor) ?_
    refine H.Aa (x := row wb _ _) (by repeat constructor) ?_
    refine H.Aa (x := row xb _ _) (by repeat constructor) ?_
    refine H.on [] (Le.un _ g) rfl ?_
    refine HB.Af [(25, false)] 1 (by kernel_rfl) ?_
    refine HQ.Bc (t := 54) (out := (W.next n o x).vals qp qc) rfl rfl rfl (by kernel_rfl) rfl ?_
    refine HQ.Ae rfl ?_
    refine HB.ev1 (i := 27) (by kernel_rfl) rfl ?_
    refine H.Ak (ls := msgZ.vals none 0) (vs := (W.next n o x).vals qp qc) (ls' := (W.next n o x).vals qp qc) rfl rfl rfl (zae rfl) rfl rfl (Nat.le_refl 121) (by repeat constructor) ?_
    refine gA ?_
    refine H.on0 rfl ?_
    refine HB.Al (by kernel_rfl) ?_
    refine H.Aa (x := slc ap _ ac _ _ _) (by repeat constructor) ?_
    refine H.Aa (x := logsH _ _ _) (by repeat constructor) ?_
    refine H.Aa (x := row kb _ _) (by repeat constructor) ?_
    refine H.Aa (x := row wb _ _) (by repeat constructor) ?_
    refine H.Aa (x := row ob _ _) (by repeat constructor) ?_
    refine H.Aa (x := row mb _ _) (by repeat constructor) ?_
    refine H.Aa (x := row xb _ _) (by repeat constructor) ?_
    exact H.meet (g, qp, qc, mb) ⟨hqat, hd⟩ ⟨rfl, rfl, rfl, rfl, trivial⟩ rfl rfl
end
def few15 (l : List A15) : Bool := decide (l.length ≤ 100) && l.all fun x => decide (x.q.length ≤ 20)
theorem few15_all {l : List A15} (h : few15 l = true) : l.length ≤ 100 ∧ ∀ x ∈ l, x.q.length ≤ 20 := by
 unfold few15 at h
 simp only [Bool.and_eq_true, decide_eq_true_eq, List.all_eq_true] at h
 exact h
theorem A15.Has.mono {f g : Frag} (h : Le f g) {x : A15} (hx : x.Has f) : x.Has g := by
 rcases hx with e | ⟨b, off, cs, T, fr, h1, h2, h3⟩
 ·exact .inl e
 ·exact .inr ⟨b, off, cs, T, fr, h1, h _ _ h2, h3⟩
def Acts15P (f : Frag) (F : List HP) (n : Nat) (W : W15) : Value → Frag → List HP → Prop := fun v f' A' => ∃ (g : Frag) (wb : Nat), v = .pointer (some ⟨wb, 0, none⟩) ∧ Dj f g ∧ f' = un f g ∧ A' = wH15 f' wb n W :: F
section
variable (f : Frag) (F : List HP)
theorem odd15_fn (n8 : UInt8) : Fn Tryz.prog 41 [.int .u8 (n8.toNat : Nat)] f F (Ret (.int .i64 ((3 + 2 * (n8.toNat % 5) : Nat) : Int)) f F) := by
 have h := n8.toNat_lt
 have hm : ((n8.toNat % 5 : Nat) : Int) ≤ 4 := by omega
 refine Fn.enter Tryz.func41 rfl Tryz.ntmps41 rfl (L := [(0, _)]) ⟨rfl, trivial⟩ fun base => ?_
 refine gO ?_
 refine H.rem (z := ((n8.toNat % 5 : Nat) : Int)) rfl rfl rfl (by decide) (zak (b := 5) rfl) rfl ?_
 refine ge ?_
 refine H.Ac rfl rfl (fun _ h => h) ⟨?_, rfl, rfl⟩
 congr 1
theorem few15_fn {p : Option Addr} {c : Nat} {l : List A15} (hat : ListAt f p 12 A15.vals l) (hl : l.length ≤ 9223372036854775807) : Fn Tryz.prog 11 [.slice p l.length c] f F (Ret (.bool (few15 l)) f F) := by
 by_cases h30 : l.length ≤ 100
 ·refine Fn.enter Tryz.func11 rfl Tryz.ntmps11 rfl (L := [(0, _)]) ⟨rfl, trivial⟩ fun base => ?_
  refine gN ?_
  refine H.Aw (ι := Nat) (fun i => [(3, .int .i64 (i : Int)), (0, .slice p l.length c)]) (fun _ => f) (fun _ => F) (fun i => i ≤ l.length ∧ ∀ j x, j < i → l[j]? = some x → x.q.length ≤ 20) (fun i => l.length - i) 0 ⟨Nat.zero_le _, fun j x hj => by omega⟩ ⟨rfl, rfl, trivial⟩ rfl rfl fun i hi => ?_
  obtain ⟨hi, hb⟩ : i ≤ l.length ∧ ∀ j x, j < i → l[j]? = some x → x.q.length ≤ 20 := hi
  by_cases hlt : i < l.length
  ·have hx : l[i]? = some l[i] := List.getElem?_eq_getElem hlt
   generalize l[i] = x at hx
   obtain ⟨b, off, cs, T, fr, rfl, hfb, hcs⟩ := hat i x hx
   have rd : ∀ A, Rd f A b (off + i * 12) x.vals := fun A => Rd.imm hfb hcs
   refine gI ?_
   refine H.Ap rfl rfl rfl rfl hlt rfl ?_
   refine gS ?_
   refine H.Ad rfl rfl rfl (Rd1.of (i := 10) (rd _) rfl) rfl ?_
   refine gV ?_
   by_cases hq : x.q.length ≤ 20
   ·skip
    refine gN ?_
    refine H.Ao (i + 1) ⟨by show i + 1 ≤ l.length; omega, fun j y hj hy => ?_⟩ (by show l.length - (i + 1) < l.length - i; omega) ⟨rfl, rfl, trivial⟩ rfl rfl
    by_cases e : j = i
    ·subst e; rw [hx] at hy; cases hy; exact hq
    ·exact hb j y (by omega) hy
   ·skip
    refine gI ?_
    refine H.Ac rfl rfl (fun _ h => h) ⟨?_, rfl, rfl⟩
    have : few15 l = false := by
     unfold few15
     rw [Bool.and_eq_false_iff]
     exact .inr (List.all_eq_false.2 ⟨x, List.mem_of_getElem? hx, by rw [decide_eq_false hq]; decide⟩)
    rw [this]
  ·refine gN ?_
   refine H.Ac rfl rfl (fun _ h => h) ⟨?_, rfl, rfl⟩
   have : few15 l = true := by
    unfold few15
    rw [decide_eq_true h30, Bool.true_and, List.all_eq_true]
    intro x hx
    obtain ⟨j, hj⟩ := List.getElem?_of_mem hx
    have hjl := (List.getElem?_eq_some_iff.1 hj).1
    exact decide_eq_true (hb j x (by omega) hj)
   rw [this]
 ·refine Fn.enter Tryz.func11 rfl Tryz.ntmps11 rfl (L := [(0, _)]) ⟨rfl, trivial⟩ fun base => ?_
  refine gI ?_
  refine H.Ac rfl rfl (fun _ h => h) ⟨?_, rfl, rfl⟩
  have : few15 l = false := by unfold few15; rw [decide_eq_false h30]; rfl
  rw [this]
theorem nworld_fn {n : Nat} (h : fewZ (n : Int)) : Fn Tryz.prog 40 [.int .i64 (n : Int)] f F (Acts15P f F n (W15.zero n)) := by
 have hn : n ≤ 11 := by have := h.2.1; omega
 refine Fn.enter Tryz.func40 rfl Tryz.ntmps40 rfl (L := [(0, _)]) ⟨rfl, trivial⟩ fun base => ?_
 refine gO ?_
 refine H.call rfl rfl rfl (lgnew_fn f _ h) fun v f' A' hr => ?_
 obtain ⟨g, lb, hd, rfl, rfl, rfl⟩ := hr
 refine gR ?_
 refine H.makeS (m := n) (zs := v11 fun _ => 0) rfl rfl rfl rfl rfl rfl rfl (by decide) (by omega) (by omega) rfl fun kb => ?_
 rw [kRow_zero]
 repeat (first | (refine H.Bc (t := 37) (out := w15C kb n none 0 0 lb) rfl rfl rfl (by kernel_rfl) rfl ?_) | ((apply H.Aj); (iterate 3 exact rfl)))
 refine H.box (ls := w15C kb n none 0 0 lb) rfl rfl rfl rfl fun wb => ?_
 refine gX ?_
 refine H.Aa (x := logsH _ _ _) (by repeat constructor) ?_
 refine H.slc0 54 121 ?_
 refine H.Aa (x := row kb _ _) (by repeat constructor) ?_
 refine H.Aa (x := row wb _ _) (by repeat constructor) ?_
 refine H.imp (w15_fold (e := un f g) (n := n) (W := W15.zero n) ⟨kb, lb, none, 0, []⟩ ⟨rfl, fun y hy => by cases hy⟩) ?_
 exact H.Ac rfl rfl (fun _ h => h) ⟨g, wb, rfl, hd, rfl, rfl⟩
set_option maxHeartbeats 1600000 in
theorem acts15_fn {n8 : UInt8} {n : Nat} (hn8 : n = 3 + 2 * (n8.toNat % 5)) {p : Option Addr} {c : Nat} {xs : List A15} (hat : ListAt f p 12 A15.vals xs) (hh : ∀ x ∈ xs, x.Has f ∧ x.q.length ≤ 20) (hl : xs.length ≤ 100) :
  Fn Tryz.prog 13 [.int .u8 (n8.toNat : Nat), .slice p xs.length c] f F (Acts15P f F n (world15 n xs)) := by
 have hn3 : 3 ≤ n ∧ n ≤ 11 := by omega
 have hodd := fun G => odd15_fn f G n8
 rw [← hn8] at hodd
 have hfz : fewZ (n : Int) := ⟨by omega, by omega, by
  rw [show (2 : Int) = ((2 : Nat) : Int) from rfl, zak (a := n) (b := 2) (r := 1) (by omega)]; rfl⟩
 refine Fn.enter Tryz.func13 rfl Tryz.ntmps13 rfl (L := [(0, _), (1, _)]) ⟨rfl, rfl, trivial⟩ fun base => ?_
 refine gO ?_
 refine H.Ah rfl rfl rfl (hodd _) ?_
 refine H.call rfl rfl rfl (nworld_fn f _ hfz) fun v f' A' hr => ?_
 obtain ⟨g0, wb, rfl, hd0, rfl, rfl⟩ := hr
 refine gX ?_
 refine H.Aw (ι := Nat × Frag) (fun s => [(6, .int .i64 (s.1 : Int)), (1, .slice p xs.length c), (5, .pointer (some ⟨wb, 0, none⟩))]) (fun s => un f s.2)
  (fun s => wH15 (un f s.2) wb n (world15 n (xs.take s.1)) :: F)
  (fun s => s.1 ≤ xs.length ∧ Dj f s.2) (fun s => xs.length - s.1) (0, g0) ⟨Nat.zero_le _, hd0⟩ ⟨rfl, rfl, rfl, trivial⟩ rfl rfl fun s hs => ?_
 obtain ⟨k, G⟩ := s
 obtain ⟨hk, hdj⟩ : k ≤ xs.length ∧ Dj f G := hs
 show H _ _ _ [(6, .int .i64 (k : Int)), _, _] (un f G) (wH15 (un f G) wb n (world15 n (xs.take k)) :: F) _
 by_cases hlt : k < xs.length
 ·obtain ⟨x, hx⟩ : ∃ x, xs[k]? = some x := ⟨_, List.getElem?_eq_getElem hlt⟩
  have hnext : world15 n (xs.take (k + 1)) = (world15 n (xs.take k)).act n x := by rw [take_snoc hx, world15_snoc]
  obtain ⟨hxa, hxq⟩ := hh x (List.mem_of_getElem? hx)
  obtain ⟨b, off, cs, T, fr, rfl, hfb, hcs⟩ := hat k x hx
  have rd : ∀ A, Rd (un f G) A b (off + k * 12) x.vals := fun A => Rd.imm (Le.un f G b _ hfb) hcs
  have hinv := world15_inv hn3.1 hn3.2 xs k (by omega)
  have hwl := world15_len n xs k
  refine gI ?_
  refine H.Ap (i := k) rfl rfl rfl rfl hlt rfl ?_
  refine H.Ag (ls := x.vals) rfl rfl rfl (rd _) rfl rfl ?_
  refine H.call rfl rfl rfl (do_fn (un f G) _ (Le.refl _) hn3 hinv (by omega) (by omega) (hxa.mono (Le.un f G)) hxq) fun v f' A' hr => ?_
  obtain ⟨g, u, hd, rfl, rfl, rfl⟩ := hr
  refine ge ?_
  refine H.Ao (k + 1, un G g) ⟨by show k + 1 ≤ xs.length; omega, Dj.un3' hdj hd⟩ (by show xs.length - (k + 1) < xs.length - k; omega) ⟨rfl, rfl, rfl, trivial⟩ (un_assoc _ _ _) ?_
  show wH15 (un (un f G) g) wb n _ :: F = wH15 (un f (un G g)) wb n (world15 n (xs.take (k + 1))) :: F
  rw [hnext, un_assoc]
 ·have e : k = xs.length := by omega
  subst e
  rw [List.take_length]
  refine gN ?_
  exact H.Ac rfl rfl (fun _ h => h) ⟨G, wb, rfl, hdj, rfl, rfl⟩
end
theorem H.world15 {P : Program} {base : World} {m : Nat} {L : Env} {f : Frag} {A : List HP} {K : Kont} {wb n : Nat} {W : W15}
  (h : ∀ g kb ap ac lb (l : List MV), Dj f g → WAt (un f g) n W.w kb ap l → H P base m L (un f g) (row wb 37 (w15C kb n ap l.length ac lb) :: A) K) : H P base m L f (wH15 f wb n W :: A) K := by
 refine H.unpack fun i hi => ?_
 obtain ⟨kb, lb, ap, ac, l⟩ := i
 show H P base m L f (row wb 37 (w15C kb n ap l.length ac lb) :: row kb 44 (kRow n W.w.kv) :: slc ap l.length ac 54 121 (l.flatMap MV.vals) :: logsH f lb W.l :: A) K
 refine H.freeze (.there _ (.here _ _)) fun g1 hg1 hd1 => ?_
 refine H.freeze (.there _ (.here _ _)) fun g2 hg2 hd2 => ?_
 refine H.Ab (.there _ (.here _ _)) ?_
 have hd3 : Dj f (un g1 g2) := Dj.un3' hd1 hd2
 rw [un_assoc]
 have hle : Le f (un f (un g1 g2)) := Le.un _ _
 have h1 : KAt (un f (un g1 g2)) kb n W.w.kv := by rw [← un_assoc]; exact (KAt.of hg1 hd1).mono (Le.un _ g2)
 have h2 : ListAt (un f (un g1 g2)) ap 121 MV.vals l := by rw [← un_assoc]; exact (slc_listAt MV.len hg2).mono (Le.right hd2)
 exact h (un g1 g2) kb ap ac lb l hd3 ⟨h1, h2, fun y hy => (hi.2 y hy).mono hle, hi.1⟩
structure Sd where
 o : Int
 k : Int
 d : Int
def Sd.vals (x : Sd) : List Value := [.int .i64 x.o, .int .u8 x.k, .int .u8 x.d]
def dig1 (u : UInt8) : Nat → UInt8 := fun i => if i = 0 then u else 0
theorem u8_mod {z : Int} {m : Nat} (hm : 0 < m ∧ m ≤ 256) (h0 : 0 ≤ z) : ∃ u : UInt8, z.tmod (m : Int) = ((u.toNat : Nat) : Int) ∧ u.toNat < m := by
 have h1 : z.toNat % m < m := Nat.mod_lt _ hm.1
 refine ⟨UInt8.ofNat (z.toNat % m), ?_, ?_⟩
 ·rw [UInt8.toNat_ofNat', Nat.mod_eq_of_lt (by omega), ← tmod64, Int.toNat_of_nonneg h0]
 ·rw [UInt8.toNat_ofNat', Nat.mod_eq_of_lt (by omega)]
  exact h1
theorem take_len (M : CM) (n : Nat) (m : Msg) : (CM.take M n m).2.length ≤ M.length + 1 := by
 unfold CM.take
 split
 ·rw [List.length_append]; exact Nat.le_refl _
 ·show M.length ≤ M.length + 1; omega
section
variable (f : Frag) (F : List HP)
set_option maxRecDepth 20000 in
set_option maxHeartbeats 6400000 in
theorem checkPlays_fn (htab : TabAt f) {n8 : UInt8} {sp : Option Addr} {sc : Nat} {sd : List Sd} (hsat : ListAt f sp 3 Sd.vals sd) (hsq : ∀ x ∈ sd, (0 ≤ x.k ∧ x.k ≤ 255) ∧ (0 ≤ x.d ∧ x.d ≤ 255)) (hsl : sd.length ≤ 9223372036854775807)
  {p : Option Addr} {c : Nat} {xs : List A15} (hat : ListAt f p 12 A15.vals xs) (hh : ∀ x ∈ xs, x.Has f) (hxl : xs.length ≤ 9223372036854775807)
  {wp : Option Addr} {wc : Nat} {raw : List MV} (hraw : ListAt f wp 121 MV.vals raw) (hrh : ∀ x ∈ raw, x.Has f) (hrl : raw.length ≤ 9223372036854775807)
  {bp : Option Addr} {bc : Nat} {b : List UInt8} (hb : BAt f bp b) (hbc : b.length ≤ bc) (hbl : b.length ≤ 9223372036854775807) :
  Fn Tryz.prog 3 [.int .u8 (n8.toNat : Nat), .slice sp sd.length sc, .slice p xs.length c, .slice wp raw.length wc, .slice bp b.length bc] f F (Ret (.bool true) f F) := by
 by_cases hs150 : sd.length ≤ 150
 ·have hfew := few15_fn f F (c := c) hat hxl
  cases hf : few15 xs with
  | false =>
   rw [hf] at hfew
   refine Fn.enter Tryz.func3 rfl Tryz.ntmps3 rfl (L := [(0, _), (1, _), (2, _), (3, _), (4, _)]) ⟨rfl, rfl, rfl, rfl, rfl, trivial⟩ fun base => ?_
   refine gV ?_
   refine H.Ah rfl rfl rfl hfew ?_
   refine H.not (b := _) (c := _) rfl rfl rfl rfl ?_
   refine gT ?_
   refine H.Ah rfl rfl rfl (works21_fn f _ htab) ?_
   refine gX ?_
   exact H.Ac rfl rfl (fun _ h => h) ⟨rfl, rfl, rfl⟩
  | true =>
   rw [hf] at hfew
   obtain ⟨hl100, hq20⟩ := few15_all hf
   by_cases h80 : xs.length ≤ 80
   ·by_cases hr20 : raw.length ≤ 20
    ·by_cases hb200 : b.length ≤ 200
     ·obtain ⟨n, hn8⟩ : ∃ n, n = 3 + 2 * (n8.toNat % 5) := ⟨_, rfl⟩
      have hn3 : 3 ≤ n ∧ n ≤ 11 := by omega
      have hodd : n % 2 = 1 := by omega
      have hacts := fun G => acts15_fn f G hn8 (c := c) hat (fun x hx => ⟨hh x hx, hq20 x hx⟩) hl100
      have hwl : (world15 n xs).w.all.length ≤ 80 := by have := world15_len n xs xs.length; rw [List.take_length] at this; omega
      generalize world15 n xs = W15 at *
      have hrg : ∀ x ∈ raw, x.m.body.q.length ≤ 20 → x.Good f := fun x hx hq => good_few (hrh x hx) hq
      refine Fn.enter Tryz.func3 rfl Tryz.ntmps3 rfl (L := [(0, _), (1, _), (2, _), (3, _), (4, _)]) ⟨rfl, rfl, rfl, rfl, rfl, trivial⟩ fun base => ?_
      refine gV ?_
      refine H.Ah rfl rfl rfl hfew ?_
      refine H.not (b := _) (c := _) rfl rfl rfl rfl ?_
      refine gZ ?_
      refine H.call rfl rfl rfl (hacts _) fun v f' A' hr => ?_
      obtain ⟨g, wb, rfl, hd, rfl, rfl⟩ := hr
      have le0 := Le.un f g
      generalize un f g = f0 at *
      refine H.world15 fun g1 kb ap ac lb l hd1 hwat => ?_
      have le1 := le0.trans (Le.un f0 g1)
      generalize un f0 g1 = f1 at *
      have hlm := hwat.m
      have hla := hwat.a
      have hlg := hwat.g
      clear hacts hfew hwat hn8 hat hh hq20 hrh hd hd1
      generalize W15.w.all = all0 at *
      have hll : l.length = all0.length := by rw [← hlm, List.length_map]
      refine gK ?_
      refine H.callE rfl rfl rfl (cnew_fn f1 _ hn3.1 hn3.2 hodd) fun cb => ?_
      repeat (first | (refine H.Bc (t := 41) (out := rkC n none 0 0) rfl rfl rfl (by kernel_rfl) rfl ?_) | ((first | apply H.Aj | apply H.Ar | apply H.Ax | apply H.Bn); (iterate 3 exact rfl)) | (apply H.Aq; (iterate 3 exact rfl); exact inferInstance; exact rfl) | (apply H.Ad; (iterate 3 exact rfl); apply Rd1.ofRow; (repeat (first | exact .here _ _ _ | apply At.there)); (iterate 2 exact rfl)) | (first | apply H.seq | apply H.Au | apply H.nil | apply H.Av) | ((apply H.Cc); (iterate 4 exact rfl)))
      refine H.box (ls := rkC n none 0 0) rfl rfl rfl rfl fun rb => ?_
      refine gY ?_
      refine H.slc0 115 34 ?_
      refine H.Aa (x := row rb _ _) (by repeat constructor) ?_
      refine H.imp (rck_fold (M := []) (none, 0)) ?_
      refine H.Be (out := []) rfl rfl rfl rfl (by decide) (by decide) rfl rfl fun eb => ?_
      refine H.asSlc (k := 0) (sz := 121) rfl (by decide) ?_
      refine gK ?_
      refine H.Bf (xs := []) (m := l.length) (news := l.flatMap MV.vals) rfl rfl rfl rfl rfl (fun p' c' => .here _ _ _) (hla.src MV.len (by decide)) (MVs_one l) rfl (by omega) (by omega) fun ep ec => ?_
      rw [Nat.zero_add, List.nil_append]
      refine gO ?_
      refine H.Bf (xs := l.flatMap MV.vals) (m := raw.length) (news := raw.flatMap MV.vals) rfl rfl rfl rfl rfl (fun p' c' => .here _ _ _) ((hraw.mono le1).src MV.len (by decide)) (MVs_one raw) rfl (by omega) (by omega) fun dp dc => ?_
      rw [show l.length + raw.length = (l ++ raw).length from List.length_append.symm, show l.flatMap MV.vals ++ raw.flatMap MV.vals = (l ++ raw).flatMap MV.vals from List.flatMap_append.symm]
      have hT0 : ∀ x ∈ l ++ raw, x.m.body.q.length ≤ 20 → x.Good f1 := fun x hx hq => by
       rcases List.mem_append.1 hx with hx | hx
       ·exact hlg x hx
       ·exact (hrg x hx hq).mono le1
      have hTl : (l ++ raw).length ≤ 100 := by rw [List.length_append]; omega
      generalize l ++ raw = T0 at *
      clear hrg hraw hlg hla
      refine H.Aa (x := rckH _ _ _) (by repeat constructor) ?_
      refine H.Aa (x := chkH _ _ _) (by repeat constructor) ?_
      refine H.Aa (x := slc dp _ dc _ _ _) (by repeat constructor) ?_
      refine gX ?_
      refine H.Aw (ι := Nat × Option Addr × Nat × List MV) (fun s => [(16, .int .i64 (s.1 : Int)), (15, .slice s.2.1 s.2.2.2.length s.2.2.1), (1, .slice sp sd.length sc), (4, .slice bp b.length bc), (12, .pointer (some ⟨cb, 0, none⟩)), (14, .pointer (some ⟨rb, 0, none⟩))]) (fun _ => f1)
       (fun s => slc s.2.1 s.2.2.2.length s.2.2.1 54 121 (s.2.2.2.flatMap MV.vals) :: chkH cb n [] :: rckH rb n [] :: row wb 37 (w15C kb n ap l.length ac lb) :: F)
       (fun s => s.1 ≤ sd.length ∧ s.2.2.2.length ≤ 100 + s.1 ∧ ∀ x ∈ s.2.2.2, x.m.body.q.length ≤ 20 → x.Good f1) (fun s => sd.length - s.1)
       (0, dp, dc, T0) ⟨Nat.zero_le _, hTl, hT0⟩ ⟨rfl, rfl, rfl, rfl, rfl, rfl, trivial⟩ rfl rfl fun s hs => ?_
      clear hTl hT0
      obtain ⟨i, dp, dc, T⟩ := s
      obtain ⟨hi, hTl, hT⟩ : i ≤ sd.length ∧ T.length ≤ 100 + i ∧ ∀ x ∈ T, x.m.body.q.length ≤ 20 → x.Good f1 := hs
      show H _ _ _ [(16, .int .i64 (i : Int)), (15, .slice dp T.length dc), _, _, _, _] _ (slc dp T.length dc _ 121 (T.flatMap MV.vals) :: _ :: _ :: _ :: F) _
      by_cases hlt : i < sd.length
      ·obtain ⟨x, hx⟩ : ∃ x, sd[i]? = some x := ⟨_, List.getElem?_eq_getElem hlt⟩
       obtain ⟨hxk, hxd⟩ := hsq x (List.mem_of_getElem? hx)
       obtain ⟨b0, o0, rfl, rds⟩ := (hsat.mono le1).all (sz := 3) (vals := Sd.vals) (fun _ => rfl) (by decide) (by omega)
       have rdx : ∀ A, Rd f1 A b0 (o0 + i * 3) x.vals := fun A => rds _ A i x (Le.refl f1) hx
       obtain ⟨ku, hku, hku8⟩ := u8_mod (z := x.k) (m := 8) (by decide) hxk.1
       obtain ⟨du, hdu, _⟩ := u8_mod (z := x.d) (m := 3) (by decide) hxd.1
       obtain ⟨kk, hkk⟩ : ∃ kk : Nat, kk = ku.toNat := ⟨_, rfl⟩
       rw [← hkk] at hku hku8
       have hku : x.k.tmod 8 = ((kk : Nat) : Int) := hku
       have hdu : x.d.tmod 3 = ((du.toNat : Nat) : Int) := hdu
       have hconv : IntKind.u64.wrap ((kk : Nat) : Int) = ((kk : Nat) : Int) := wr_u64 (by omega)
       obtain ⟨y, hy⟩ : ∃ y, y = oneMV x.o ((kk : Nat) : Int) (dig1 du) := ⟨_, rfl⟩
       have hyg : y.Good f1 := by rw [hy]; exact oneMV_good f1 (by omega)
       have hone := fun G => one21_fn f1 G (o := x.o) (k := ((kk : Nat) : Int)) (t := dig1 du)
       rw [← hy] at hone
       clear hy rds
       refine gI ?_
       refine H.Ay (by kernel_rfl) (by decide +kernel) (by repeat (first | exact zab | refine zaa ?_ | refine zac ?_ | refine zad ?_)) (S := []) rfl ?_
       refine HB.Af [(0, false), (1, false), (2, false), (3, false), (4, false), (5, false), (6, false), (7, false), (8, false), (9, false), (10, false), (11, false), (12, false), (13, false), (14, false), (15, false), (16, false), (17, false), (18, false), (19, false)] 4 (by kernel_rfl) ?_
       refine gB ?_
       refine HQ.Ap (i := i) rfl rfl rfl rfl hlt rfl ?_
       refine gC ?_
       refine HQ.Ad rfl rfl rfl (Rd1.of (i := 0) (rdx _) rfl) rfl ?_
       refine gB ?_
       refine HQ.Ap (i := i) rfl rfl rfl rfl hlt rfl ?_
       refine gC ?_
       refine HQ.Ad rfl rfl rfl (Rd1.of (i := 1) (rdx _) rfl) rfl ?_
       refine HQ.rem rfl rfl rfl (by decide) hku rfl ?_
       refine HQ.Bh rfl rfl hconv rfl ?_
       refine gB ?_
       refine HQ.Ap (i := i) rfl rfl rfl rfl hlt rfl ?_
       refine gC ?_
       refine HQ.Ad rfl rfl rfl (Rd1.of (i := 2) (rdx _) rfl) rfl ?_
       refine HQ.rem rfl rfl rfl (by decide) hdu rfl ?_
       refine HQ.buildA (out := b32 (dig1 du)) rfl rfl rfl rfl rfl ?_
       refine HQ.Ae rfl ?_
       refine HB.ev1 (i := 20) (by kernel_rfl) rfl ?_
       refine H.Ah rfl rfl rfl (hone _) ?_
       refine gA ?_
       refine H.on0 rfl ?_
       refine HB.ev1 (i := 21) (by kernel_rfl) rfl ?_
       refine H.Be (out := y.vals) rfl rfl rfl rfl (by decide) (by decide) rfl rfl fun eb2 => ?_
       refine gA ?_
       refine H.on0 rfl ?_
       refine HB.ev1 (i := 22) (by kernel_rfl) rfl ?_
       refine H.Bf (p := dp) (n0 := T.length) (c := dc) (xs := T.flatMap MV.vals) (m := 1) (news := y.vals) rfl rfl rfl rfl rfl (fun p' c' => (by repeat constructor)) (Src.slice (Rd.ofRow (by repeat constructor)) rfl) (mv_one _) rfl (by omega) (by omega) fun dp2 dc2 => ?_
       rw [show T.length + 1 = (T ++ [y]).length by rw [List.length_append]; rfl, show T.flatMap MV.vals ++ y.vals = (T ++ [y]).flatMap MV.vals by rw [List.flatMap_append]; simp]
       have hT2l : (T ++ [y]).length ≤ 100 + (i + 1) := by rw [List.length_append]; show T.length + 1 ≤ _; omega
       have hT2 : ∀ x ∈ T ++ [y], x.m.body.q.length ≤ 20 → x.Good f1 := fun z hz hq => by
        rcases List.mem_append.1 hz with h | h
        ·exact hT z h hq
        ·rw [List.mem_singleton.1 h]; exact hyg
       generalize T ++ [y] = T2 at hT2l hT2 ⊢
       refine gA ?_
       refine H.Ab (x := row eb2 _ _) (by repeat constructor) ?_
       refine H.on0 rfl ?_
       refine HB.Af [(23, false)] 0 (by kernel_rfl) ?_
       refine gB ?_
       refine HQ.Ae rfl ?_
       refine HB.Al (by kernel_rfl) ?_
       refine ge ?_
       exact H.Ao (i + 1, dp2, dc2, T2) ⟨by show i + 1 ≤ sd.length; omega, hT2l, hT2⟩ (by show sd.length - (i + 1) < sd.length - i; omega) ⟨rfl, rfl, rfl, rfl, rfl, rfl, trivial⟩ rfl rfl
      ·have hsumA := fun (e : Frag) (he : Le f1 e) G => rsum_fn e G (p := bp) (c := bc) (b := b) ((hb.mono (le1.trans he)).src) (by omega)
       obtain ⟨y1, hy1⟩ : ∃ y, y = oneMV 1 9 (Sha.sum b) := ⟨_, rfl⟩
       obtain ⟨y2, hy2⟩ : ∃ y, y = oneMV 2 9 (Sha.sum b) := ⟨_, rfl⟩
       obtain ⟨y3, hy3⟩ : ∃ y, y = oneMV 3 9 (Sha.sum b) := ⟨_, rfl⟩
       have hg1 : y1.Good f1 := by rw [hy1]; exact oneMV_good f1 (by decide)
       have hg2 : y2.Good f1 := by rw [hy2]; exact oneMV_good f1 (by decide)
       have hg3 : y3.Good f1 := by rw [hy3]; exact oneMV_good f1 (by decide)
       have ho1 := fun G => one21_fn f1 G (o := 1) (k := 9) (t := Sha.sum b)
       have ho2 := fun G => one21_fn f1 G (o := 2) (k := 9) (t := Sha.sum b)
       have ho3 := fun G => one21_fn f1 G (o := 3) (k := 9) (t := Sha.sum b)
       rw [← hy1] at ho1
       rw [← hy2] at ho2
       rw [← hy3] at ho3
       have hright : ∀ o, rightB b o = decide (o = some (dOf (Sha.sum b))) := fun o => rfl
       have hcright := fun G M k => cright_fn f1 G (tab_mono htab le1) (cb := cb) (n := n) (M := M) (k := k) hn3.2 (hb.mono le1) hbc (by omega)
       clear hy1 hy2 hy3 hsat hsq
       generalize Sha.sum b = t at *
       refine gN ?_
       refine H.Ah rfl rfl rfl (hsumA _ (Le.refl f1) _) ?_
       refine H.Ah rfl rfl rfl (ho1 _) ?_
       refine gO ?_
       refine H.Ah rfl rfl rfl (hsumA _ (Le.refl f1) _) ?_
       refine H.Ah rfl rfl rfl (ho2 _) ?_
       refine gO ?_
       refine H.Ah rfl rfl rfl (hsumA _ (Le.refl f1) _) ?_
       refine H.Ah rfl rfl rfl (ho3 _) ?_
       clear ho1 ho2 ho3
       refine H.Be (out := [y1, y2, y3].flatMap MV.vals) rfl rfl rfl rfl (by decide) (by decide) rfl rfl fun eb2 => ?_
       refine H.Bf (p := dp) (n0 := T.length) (c := dc) (xs := T.flatMap MV.vals) (m := 3) (news := [y1, y2, y3].flatMap MV.vals) rfl rfl rfl rfl rfl (fun p' c' => (by repeat constructor)) (Src.slice (Rd.ofRow (by repeat constructor)) rfl) (MVs_one _) rfl (by omega) (by omega) fun dp2 dc2 => ?_
       rw [show T.length + 3 = (T ++ [y1, y2, y3]).length by rw [List.length_append]; rfl, show T.flatMap MV.vals ++ [y1, y2, y3].flatMap MV.vals = (T ++ [y1, y2, y3]).flatMap MV.vals from List.flatMap_append.symm]
       have hT2l : (T ++ [y1, y2, y3]).length ≤ 253 := by rw [List.length_append]; show T.length + 3 ≤ _; omega
       have hT2 : ∀ x ∈ T ++ [y1, y2, y3], x.m.body.q.length ≤ 20 → x.Good f1 := fun z hz hq => by
        rcases List.mem_append.1 hz with h | h
        ·exact hT z h hq
        ·rcases List.mem_cons.1 h with rfl | h
         ·exact hg1
         ·rcases List.mem_cons.1 h with rfl | h
          ·exact hg2
          ·rw [List.mem_singleton.1 h]; exact hg3
       generalize T ++ [y1, y2, y3] = all at hT2l hT2 ⊢
       clear hg1 hg2 hg3 hT hTl
       refine gX ?_
       refine H.Ab (x := row eb2 _ _) (by repeat constructor) ?_
       refine H.freeze (x := slc dp2 _ dc2 _ _ _) (by repeat constructor) fun ga hga hda => ?_
       have hall : ListAt (un f1 ga) dp2 121 MV.vals all := (slc_listAt MV.len hga).mono (Le.right hda)
       have le2 := Le.un f1 ga
       have hT3 : ∀ x ∈ all, x.m.body.q.length ≤ 20 → x.Good (un f1 ga) := fun x hx hq => (hT2 x hx hq).mono le2
       have hsum2 := hsumA (un f1 ga) le2
       have le3 := le1.trans le2
       have hcright := fun G M k => cright_fn (un f1 ga) G (tab_mono htab le3) (cb := cb) (n := n) (M := M) (k := k) hn3.2 (hb.mono le3) hbc (by omega)
       have hw := fun G => works21_fn (un f1 ga) G (tab_mono htab le3)
       clear hsumA hga hda hT2
       generalize un f1 ga = f2 at *
       skip
       refine H.Aa (x := rckH _ _ _) (by repeat constructor) ?_
       refine H.Aa (x := chkH _ _ _) (by repeat constructor) ?_
       refine H.Aw (ι := Nat × CM) (fun s => [(17, .int .i64 (s.1 : Int)), (15, .slice dp2 all.length dc2), (4, .slice bp b.length bc), (12, .pointer (some ⟨cb, 0, none⟩)), (14, .pointer (some ⟨rb, 0, none⟩))]) (fun _ => f2)
        (fun s => chkH cb n s.2 :: rckH rb n s.2 :: row wb 37 (w15C kb n ap l.length ac lb) :: F)
        (fun s => s.1 ≤ all.length ∧ s.2.length ≤ s.1 ∧ DI n s.2) (fun s => all.length - s.1)
        (0, []) ⟨Nat.zero_le _, Nat.le_refl 0, trivial⟩ ⟨rfl, rfl, rfl, rfl, rfl, trivial⟩ rfl rfl fun s hs => ?_
       obtain ⟨i, M⟩ := s
       obtain ⟨hi, hMl, hDI⟩ : i ≤ all.length ∧ M.length ≤ i ∧ DI n M := hs
       show H _ _ _ [(17, .int .i64 (i : Int)), _, _, _, _] _ (chkH cb n M :: rckH rb n M :: _ :: F) _
       by_cases hlt : i < all.length
       ·obtain ⟨ab, aoff, rfl, rdA⟩ := hall.all MV.len (by decide) (by omega)
        obtain ⟨y, hy⟩ : ∃ y, all[i]? = some y := ⟨_, List.getElem?_eq_getElem hlt⟩
        by_cases hq : y.m.body.q.length ≤ 20
        ·have hyg := hT3 y (List.mem_of_getElem? hy) hq
         have hct := fun G => ctake_fn f2 G (cb := cb) (n := n) (M := M) hyg
         have hrt := fun G => rctake_fn f2 G (rb := rb) (n := n) (M := M) hyg (by omega)
         have hDI2 : DI n (CM.take M n y.m).2 := hDI.take fun h => (Msg.may_outer h).1
         have hM2l : (CM.take M n y.m).2.length ≤ i + 1 := by have := take_len M n y.m; omega
         generalize (CM.take M n y.m).2 = M2 at *
         generalize (CM.take M n y.m).1 = tk at *
         refine gI ?_
         refine H.Ap (i := i) rfl rfl rfl rfl hlt rfl ?_
         refine gS ?_
         refine H.Ad rfl rfl rfl (Rd1.of (i := 56) (rdA _ _ _ _ (Le.refl f2) hy) rfl) rfl ?_
         refine gN ?_
         refine H.Ay (by kernel_rfl) (by decide +kernel) (by with_reducible (repeat (first | exact zab | refine zaa ?_ | refine zac ?_ | refine zad ?_))) (S := []) rfl ?_
         refine HB.Af [(0, false), (1, false), (2, false), (3, false), (4, false), (6, false), (7, false), (8, false), (9, false), (10, false)] 3 (by kernel_rfl) ?_
         refine gB ?_
         refine HQ.Ap (i := i) rfl rfl rfl rfl hlt rfl ?_
         refine HQ.Ag (ls := y.vals) rfl rfl rfl (rdA _ _ _ _ (Le.refl f2) hy) rfl rfl ?_
         refine gB ?_
         refine HQ.Ap (i := i) rfl rfl rfl rfl hlt rfl ?_
         refine HQ.Ag (ls := y.vals) rfl rfl rfl (rdA _ _ _ _ (Le.refl f2) hy) rfl rfl ?_
         refine HQ.Ae rfl ?_
         refine HB.ev1 (i := 5) (by kernel_rfl) rfl ?_
         refine H.Ah rfl rfl rfl (hct _) ?_
         refine gA ?_
         refine H.on0 rfl ?_
         refine HB.ev1 (i := 11) (by kernel_rfl) rfl ?_
         refine H.Aa (x := rckH _ _ _) (by repeat constructor) ?_
         refine H.Ah rfl rfl rfl (hrt _) ?_
         refine gA ?_
         refine H.on0 rfl ?_
         refine HB.Af [(12, false)] 0 (by kernel_rfl) ?_
         refine HQ.bne (b := false) rfl rfl rfl rfl (by cases tk <;> rfl) rfl ?_
         skip
         refine HQ.Ae rfl ?_
         refine HB.Al (by kernel_rfl) ?_
         refine gM ?_
         refine H.Aa (x := chkH _ _ _) (by repeat constructor) ?_
         exact H.Ao (i + 1, M2) ⟨by show i + 1 ≤ all.length; omega, hM2l, hDI2⟩ (by show all.length - (i + 1) < all.length - i; omega) ⟨rfl, rfl, rfl, rfl, rfl, trivial⟩ rfl rfl
        ·skip
         refine gI ?_
         refine H.Ap (i := i) rfl rfl rfl rfl hlt rfl ?_
         refine gS ?_
         refine H.Ad rfl rfl rfl (Rd1.of (i := 56) (rdA _ _ _ _ (Le.refl f2) hy) rfl) rfl ?_
         refine gI ?_
         refine H.Ah rfl rfl rfl (hw _) ?_
         refine gX ?_
         refine H.weakL le3 ?_
         refine H.Ab (.here _ _) ?_
         refine H.Ab (.here _ _) ?_
         refine H.Ab (.here _ _) ?_
         exact H.Ac rfl rfl (fun _ h => h) ⟨rfl, rfl, rfl⟩
       ·clear hT3 hall
        have hMl2 : M.length ≤ 1000 := by omega
        refine gN ?_
        refine H.Aw (ι := Nat) (fun k => [(18, .int .u64 (k : Int)), (4, .slice bp b.length bc), (12, .pointer (some ⟨cb, 0, none⟩)), (14, .pointer (some ⟨rb, 0, none⟩))]) (fun _ => f2)
         (fun _ => chkH cb n M :: rckH rb n M :: row wb 37 (w15C kb n ap l.length ac lb) :: F)
         (fun k => k ≤ 10) (fun k => 10 - k) 0 (Nat.zero_le _) ⟨rfl, rfl, rfl, rfl, trivial⟩ rfl rfl fun k hk => ?_
        have hk : k ≤ 10 := hk
        by_cases hk10 : k < 10
        ·refine gI ?_
         refine H.callP rfl rfl rfl (cdig_fn f2 _ hn3.2) fun o ho => ?_
         refine gR ?_
         refine H.Am (ls := dV dZ) rfl rfl rfl fun xb => ?_
         refine H.Ak (ls := dV dZ) (vs := dV (o.getD dZ)) (ls' := dV (o.getD dZ)) rfl rfl rfl (dV_one _) (dV_len _) (zal (by rw [dV_len, dV_len])) (by rw [dV_len, dV_len]; decide) (.here _ _ _) ?_
         refine gO ?_
         refine H.Aa (x := rckH _ _ _) (by repeat constructor) ?_
         refine H.callP rfl rfl rfl (rcdig_fn f2 _ hDI hn3 hodd (by omega) _) fun o2 ho2 => ?_
         obtain rfl := digR_one ho ho2
         clear ho2
         refine gR ?_
         refine H.Am (ls := dV dZ) rfl rfl rfl fun yb => ?_
         refine H.Ak (ls := dV dZ) (vs := dV (o.getD dZ)) (ls' := dV (o.getD dZ)) rfl rfl rfl (dV_one _) (dV_len _) (zal (by rw [dV_len, dV_len])) (by rw [dV_len, dV_len]; decide) (.here _ _ _) ?_
         refine H.Aa (x := row xb _ _) (by repeat constructor) ?_
         refine gO ?_
         have heq : eqC (dV (o.getD dZ)) (dV (o.getD dZ)) = true := (dV_eq _ _).trans (decide_eq_true rfl)
         refine H.Ay (by kernel_rfl) (by decide +kernel) (by with_reducible (repeat (first | exact zab | refine zaa ?_ | refine zac ?_ | refine zad ?_))) (S := [_, _]) rfl ?_
         refine HB.Af [(0, false), (1, false), (2, false), (3, false), (4, false), (5, false), (6, false), (7, false), (8, false), (9, false), (10, false), (11, false), (13, false)] 9 (by kernel_rfl) ?_
         refine HQ.Ag (ls := dV (o.getD dZ)) rfl rfl rfl (Rd.ofRow (.here _ _ _)) (dV_len _) rfl ?_
         refine HQ.Ag (ls := dV (o.getD dZ)) rfl rfl rfl (Rd.ofRow (.there _ (.here _ _ _))) (dV_len _) rfl ?_
         refine HQ.aggNe (xs := dV (o.getD dZ)) (ys := dV (o.getD dZ)) (b := false) (D := 4) rfl rfl rfl rfl (by kernel_rfl) (dV_shp _) (dV_shp _) (by kernel_rfl) (by decide) (by rw [heq]; rfl) rfl ?_
         refine gB ?_
         refine HQ.bne (b := false) rfl rfl rfl rfl (by cases o <;> rfl) rfl ?_
         refine gP ?_
         refine HQ.Ae rfl ?_
         refine HB.ev1 (i := 12) (by kernel_rfl) rfl ?_
         refine H.Aa (x := chkH _ _ _) (by repeat constructor) ?_
         refine H.callP rfl rfl rfl (hcright _ _ _) fun o3 ho3 => ?_
         obtain rfl := digR_one ho ho3
         clear ho3 heq
         refine gA ?_
         refine H.Aa (x := row yb _ _) (by repeat constructor) ?_
         refine H.Aa (x := row xb _ _) (by repeat constructor) ?_
         refine H.on0 rfl ?_
         cases o with
         | none =>
          have hn0 : rightB b none = false := by rw [hright]; exact decide_eq_false (fun h => by cases h)
          rw [hn0]
          refine HB.Af [(14, false), (15, false), (16, false)] 5 (by kernel_rfl) ?_
          refine gP ?_
          refine HQ.Ae rfl ?_
          refine HB.ev1 (i := 17) (by kernel_rfl) rfl ?_
          refine gD ?_
          refine H.on0 rfl ?_
          refine HB.Af [(18, false), (19, false), (20, false), (21, false)] 0 (by kernel_rfl) ?_
          refine HQ.Bm rfl rfl ?_
          refine HQ.Bb rfl rfl rfl rfl ?_
          refine HQ.bne (b := false) rfl rfl rfl rfl (show (false != false) = false from rfl) rfl ?_
          refine gP ?_
          refine HQ.Ae rfl ?_
          refine HB.Al (by kernel_rfl) ?_
          refine gM ?_
          refine H.Ab (x := row xb _ _) (by repeat constructor) ?_
          refine H.Ab (x := row yb _ _) (by repeat constructor) ?_
          refine H.Aa (x := chkH _ _ _) (by repeat constructor) ?_
          exact H.Ao (k + 1) (by show k + 1 ≤ 10; omega) (by show 10 - (k + 1) < 10 - k; omega) ⟨rfl, rfl, rfl, rfl, trivial⟩ rfl rfl
         | some d =>
          have heq2 : eqC (dV d) (b32 t) = rightB b (some d) := by
           rw [b32_bytes, hright]
           refine (dV_eq d (dOf t)).trans ?_
           by_cases h : d = dOf t
           ·rw [decide_eq_true h, decide_eq_true (by rw [h])]
           ·rw [decide_eq_false h, decide_eq_false (fun e => h (Option.some.inj e))]
          generalize rightB b (some d) = rr at heq2 ⊢
          refine HB.Af [(14, false), (15, false), (16, false)] 5 (by kernel_rfl) ?_
          refine gB ?_
          refine HQ.Ag (ls := dV d) rfl rfl rfl (Rd.ofRow (.there _ (.here _ _ _))) (dV_len _) rfl ?_
          refine gB ?_
          refine HQ.Ae rfl ?_
          refine HB.ev1 (i := 17) (by kernel_rfl) rfl ?_
          refine H.Ah rfl rfl rfl (hsum2 _) ?_
          refine gA ?_
          refine H.on0 rfl ?_
          refine HB.Af [(18, false), (19, false), (20, false), (21, false)] 0 (by kernel_rfl) ?_
          refine HQ.aggEq (xs := dV d) (ys := b32 t) (D := 4) rfl rfl rfl rfl (by kernel_rfl) (dV_shp _) (by kernel_rfl) (by kernel_rfl) (by decide) heq2 rfl ?_
          refine gP ?_
          refine HQ.bne (b := false) rfl rfl rfl rfl (by cases rr <;> rfl) rfl ?_
          refine gP ?_
          refine HQ.Ae rfl ?_
          refine HB.Al (by kernel_rfl) ?_
          refine gM ?_
          refine H.Ab (x := row xb _ _) (by repeat constructor) ?_
          refine H.Ab (x := row yb _ _) (by repeat constructor) ?_
          refine H.Aa (x := chkH _ _ _) (by repeat constructor) ?_
          exact H.Ao (k + 1) (by show k + 1 ≤ 10; omega) (by show 10 - (k + 1) < 10 - k; omega) ⟨rfl, rfl, rfl, rfl, trivial⟩ rfl rfl
        ·skip
         refine gN ?_
         refine H.callP rfl rfl rfl (cst_fn f2 _ hn3.2) fun r hr => ?_
         obtain ⟨sk, sd2⟩ := r
         refine gR ?_
         refine H.Am (ls := dV dZ) rfl rfl rfl fun xb => ?_
         refine gO ?_
         refine H.Ak (ls := dV dZ) (vs := dV sd2) (ls' := dV sd2) rfl rfl rfl (dV_one _) (dV_len _) (zal (by rw [dV_len, dV_len])) (by rw [dV_len, dV_len]; decide) (.here _ _ _) ?_
         refine gO ?_
         refine H.Aa (x := rckH _ _ _) (by repeat constructor) ?_
         refine H.callP rfl rfl rfl (rcst_fn f2 _ hDI hn3 hodd (by omega)) fun r2 hr2 => ?_
         obtain rfl := stR_one hr hr2
         refine gR ?_
         refine H.Am (ls := dV dZ) rfl rfl rfl fun yb => ?_
         refine gO ?_
         refine H.Ak (ls := dV dZ) (vs := dV sd2) (ls' := dV sd2) rfl rfl rfl (dV_one _) (dV_len _) (zal (by rw [dV_len, dV_len])) (by rw [dV_len, dV_len]; decide) (.here _ _ _) ?_
         refine gc ?_
         refine H.Ag (ls := dV sd2) rfl rfl rfl (Rd.ofRow (by repeat constructor)) (dV_len _) rfl ?_
         refine H.Ag (ls := dV sd2) rfl rfl rfl (Rd.ofRow (by repeat constructor)) (dV_len _) rfl ?_
         refine H.aggEq (xs := dV sd2) (ys := dV sd2) (D := 4) (b := true) rfl rfl rfl rfl (by kernel_rfl) (dV_shp _) (dV_shp _) (by kernel_rfl) (by decide) ((dV_eq _ _).trans (decide_eq_true rfl)) rfl ?_
         refine gU ?_
         refine H.Ah rfl rfl rfl (hw _) ?_
         refine gU ?_
         refine H.weakL le3 ?_
         refine H.Ab (.here _ _) ?_
         refine H.Ab (.here _ _) ?_
         refine H.Ab (.here _ _) ?_
         refine H.Ab (.here _ _) ?_
         refine H.Ab (.here _ _) ?_
         exact H.Ac rfl rfl (fun _ h => h) ⟨rfl, rfl, rfl⟩
     ·skip
      refine Fn.enter Tryz.func3 rfl Tryz.ntmps3 rfl (L := [(0, _), (1, _), (2, _), (3, _), (4, _)]) ⟨rfl, rfl, rfl, rfl, rfl, trivial⟩ fun base => ?_
      refine gV ?_
      refine H.Ah rfl rfl rfl hfew ?_
      refine H.not (b := _) (c := _) rfl rfl rfl rfl ?_
      refine gJ ?_
      refine H.Ah rfl rfl rfl (works21_fn f _ htab) ?_
      refine gX ?_
      exact H.Ac rfl rfl (fun _ h => h) ⟨rfl, rfl, rfl⟩
    ·skip
     refine Fn.enter Tryz.func3 rfl Tryz.ntmps3 rfl (L := [(0, _), (1, _), (2, _), (3, _), (4, _)]) ⟨rfl, rfl, rfl, rfl, rfl, trivial⟩ fun base => ?_
     refine gV ?_
     refine H.Ah rfl rfl rfl hfew ?_
     refine H.not (b := _) (c := _) rfl rfl rfl rfl ?_
     refine gT ?_
     refine H.Ah rfl rfl rfl (works21_fn f _ htab) ?_
     refine gX ?_
     exact H.Ac rfl rfl (fun _ h => h) ⟨rfl, rfl, rfl⟩
   ·skip
    refine Fn.enter Tryz.func3 rfl Tryz.ntmps3 rfl (L := [(0, _), (1, _), (2, _), (3, _), (4, _)]) ⟨rfl, rfl, rfl, rfl, rfl, trivial⟩ fun base => ?_
    refine gV ?_
    refine H.Ah rfl rfl rfl hfew ?_
    refine H.not (b := _) (c := _) rfl rfl rfl rfl ?_
    refine gT ?_
    refine H.Ah rfl rfl rfl (works21_fn f _ htab) ?_
    refine gX ?_
    exact H.Ac rfl rfl (fun _ h => h) ⟨rfl, rfl, rfl⟩
 ·skip
  refine Fn.enter Tryz.func3 rfl Tryz.ntmps3 rfl (L := [(0, _), (1, _), (2, _), (3, _), (4, _)]) ⟨rfl, rfl, rfl, rfl, rfl, trivial⟩ fun base => ?_
  refine gU ?_
  refine H.Ah rfl rfl rfl (works21_fn f _ htab) ?_
  refine gX ?_
  exact H.Ac rfl rfl (fun _ h => h) ⟨rfl, rfl, rfl⟩
end
end Go.Proofs.YtdcjlgigcbinjaaGreatDoor

namespace Go.Proofs.YtdcjlgigcbinjaaGreatDoor
open Go Go.ChangeShapes Go.WideShapes Go.RowKit Go.Deep
theorem Reads.bool {P : Program} {W : World} {t : TypeId} {cs : List Value} (ht : P.underlying t = some .bool) (h : Reads P W t cs) : ∃ b, cs = [.bool b] := by
 obtain ⟨H', enc, b, sp, hd, n, x, h⟩ := h
 obtain ⟨z, h1, _⟩ := DataW.trod_bool ht h
 exact ⟨z, h1⟩
theorem Reads.u8 {W : World} {cs : List Value} (h : Reads Tryz.prog W 5 cs) : ∃ x : UInt8, cs = [.int .u8 (x.toNat : Nat)] := by
 obtain ⟨x, _, e⟩ := reads_byte h
 exact ⟨x, e⟩
theorem ArgOk.u8 {W : World} {v : Value} (h : ArgOk Tryz.prog W 5 v) : ∃ x : UInt8, v = .int .u8 (x.toNat : Nat) := by
 obtain ⟨z, rfl, hz⟩ := h.int Tryz.underlying5
 exact ⟨UInt8.ofNat z.toNat, by rw [u8_back hz]⟩
theorem AllReads.cons {P : Program} {W : World} {t : TypeId} {ts : List TypeId} {ps : List (List Value)} (h : AllReads P W (t :: ts) ps) : ∃ p q, ps = p :: q ∧ Reads P W t p ∧ AllReads P W ts q := by
 cases ps with
 | nil => exact h.elim
 | cons p q => exact ⟨p, q, rfl, h.1, h.2⟩
theorem AllReads.nil {P : Program} {W : World} {ps : List (List Value)} (h : AllReads P W [] ps) : ps = [] := by
 cases ps with
 | nil => rfl
 | cons p q => exact h.elim
theorem reads_a15 {W : World} {cs : List Value} (h : Reads Tryz.prog W 98 cs) : ∃ x : A15, x.Has (memOf W) ∧ cs = x.vals := by
 obtain ⟨ps, rfl, hh⟩ := h.parts Tryz.underlying98 (by kernel_rfl)
 have h : AllReads Tryz.prog W [5, 5, 4, 4, 5, 5, 5, 5, 5, 5, 25, 4] ps := hh
 obtain ⟨p0, q0, rfl, r0, h⟩ := h.cons
 obtain ⟨p1, q1, rfl, r1, h⟩ := h.cons
 obtain ⟨p2, q2, rfl, r2, h⟩ := h.cons
 obtain ⟨p3, q3, rfl, r3, h⟩ := h.cons
 obtain ⟨p4, q4, rfl, r4, h⟩ := h.cons
 obtain ⟨p5, q5, rfl, r5, h⟩ := h.cons
 obtain ⟨p6, q6, rfl, r6, h⟩ := h.cons
 obtain ⟨p7, q7, rfl, r7, h⟩ := h.cons
 obtain ⟨p8, q8, rfl, r8, h⟩ := h.cons
 obtain ⟨p9, q9, rfl, r9, h⟩ := h.cons
 obtain ⟨p10, q10, rfl, r10, h⟩ := h.cons
 obtain ⟨p11, q11, rfl, r11, h⟩ := h.cons
 obtain rfl := h.nil
 obtain ⟨z0, rfl⟩ := r0.u8
 obtain ⟨z1, rfl⟩ := r1.u8
 obtain ⟨z2, rfl⟩ := r2.bool Tryz.underlying4
 obtain ⟨z3, rfl⟩ := r3.bool Tryz.underlying4
 obtain ⟨z4, rfl⟩ := r4.u8
 obtain ⟨z5, rfl⟩ := r5.u8
 obtain ⟨z6, rfl⟩ := r6.u8
 obtain ⟨z7, rfl⟩ := r7.u8
 obtain ⟨z8, rfl⟩ := r8.u8
 obtain ⟨z9, rfl⟩ := r9.u8
 obtain ⟨p, c, xs, rfl, _, _, _, hat⟩ := r10.list (sz := 1) Tryz.underlying25 (by kernel_rfl) (by decide) fun cs => reads_byte
 obtain ⟨z11, rfl⟩ := r11.bool Tryz.underlying4
 exact ⟨⟨z0, z1, z2, z3, z4, z5, z6, z7, z8, z9, xs, z11, p, c⟩, listAt_bat hat, rfl⟩
theorem ArgOk.acts15 {W : World} {v : Value} (h : ArgOk Tryz.prog W 23 v) : ∃ (p : Option Addr) (c : Nat) (xs : List A15), v = .slice p xs.length c ∧ xs.length ≤ 9223372036854775807 ∧ (∀ x ∈ xs, x.Has (memOf W)) ∧ ListAt (memOf W) p 12 A15.vals xs := by
  obtain ⟨p, c, xs, rfl, h1, h2, hq, hat⟩ := h.list (sz := 12) Tryz.underlying23 (by kernel_rfl) (by decide) fun cs => reads_a15
  exact ⟨p, c, xs, rfl, by have : maxLen ≤ 9223372036854775807 := by decide
                           omega, hq, hat⟩
theorem Tryz.own : ownKnob Tryz.prog.godebug = none := by kernel_rfl
theorem Tryz.laidOut : laidOutB Tryz.prog = true := by kernel_rfl
abbrev laidL : List (String × DataW Unit) := [("ratchet/sha.table", Rows.laid_ratchet_sha_table)]
theorem door_met (os : Os) (args : Array Value) : laidMetH Tryz.prog laidL ((World.doorLaid Tryz.prog 400 os).forCall (fun _ _ => 0) ⟨#[], args, []⟩).memory :=
 laidMetH_of_parts3 (fuel := 8) (laidMet_of_run' 8 (by kernel_rfl) (by kernel_rfl)) (by kernel_rfl) (by kernel_rfl)
theorem tab_eq : (Rows.laid_ratchet_sha_table : DataW Unit) = .agg ((Sha.k.map fun x => ((x.toNat : Nat) : Int)).map fun z => .lit (.int .u32 z)) := by kernel_rfl
theorem tab_of {W : World} (h : laidMetH Tryz.prog laidL W) : TabAt (memOf W) := by
 have h2 : laidMetH Tryz.prog [("ratchet/sha.table", .agg ((Sha.k.map fun x => ((x.toNat : Nat) : Int)).map fun z => .lit (.int .u32 z)))] W := by rw [← tab_eq]; exact h
 exact laid_ints h2 (by kernel_rfl) (by kernel_rfl) (t := 165) (e := 107) Tryz.underlying165 Tryz.underlying107 (by kernel_rfl)
end Go.Proofs.YtdcjlgigcbinjaaGreatDoor
