/- Parts of the proof, one behind the other, each under its own heading. No conditions. -/
import Derived.Test.YtoigpgdmignaoaaGreatDoorZ07
set_option linter.unusedSectionVars false
set_option linter.unusedSimpArgs false
set_option linter.unusedVariables false
/- Layer 15: the document's worlds: a replica's greatest view; what is asked. No condition. -/
namespace Go.Proofs.YtoigpgdmignaoaaGreatDoor
open Go
def w15C (kb n : Nat) (ap : Option Addr) (m ac lb : Nat) : List Value := [.slice (some ⟨kb, 0, none⟩) n n, .slice ap m ac, .pointer (some ⟨lb, 0, none⟩)]
section
variable (f : Frag) (F : List HP)
theorem great_fn {fl : Frag} (hfl : Le fl f) {wb kb lb : Nat} {l : Lgs} {T : Nat} (hL : LI l T) {ap : Option Addr} {m ac n o : Nat} (ho : o < l.n) :
  Fn Tryz.prog 115 [.pointer (some ⟨wb, 0, none⟩), .int .i64 ((o + 1 : Nat) : Int)] f (logsH fl lb l :: row wb 96 (w15C kb n ap m ac lb) :: F)
   (Ret (.int .u64 (l.past o).g) f (logsH fl lb l :: row wb 96 (w15C kb n ap m ac lb) :: F)) := by
 refine Fn.unpack fun i0 hi => ?_
 obtain ⟨V, vp, vc, pp, pc, cp, cc, pb, cs⟩ := i0
 have hiF := hi.mono hfl
 have hn := hL.n3
 obtain ⟨pbb, poff, hpp0, rdp0⟩ := hiF.past (by show 0 < l.n; omega)
 have hpp : pp = some ⟨pbb, poff, none⟩ := hpp0
 have rdp : ∀ {A : List HP} {r : Nat}, r < l.n → Rd1 f A pbb (poff + r) (.pointer (some ⟨pb r, 0, none⟩)) := fun {A r} hr => rdp0 (Le.refl f) hr
 clear hpp0 rdp0
 show Fn _ _ _ f (row lb 200 (lgC l.n l.known vp V.length vc pp pc cp cc) :: slc vp V.length vc 195 4 (V.flatMap VV.vals) :: lst (V.map VV.own) :: fam (fun r => pstH (pb r) (l.past r)) l.n :: slc cp l.n cc 232 1 (chRow l cs) :: fam (chFam l cs) l.n :: _ :: F) _
 refine Fn.enter Tryz.func115 rfl Tryz.ntmps115 rfl (L := [(0, _), (1, _)]) ⟨rfl, rfl, trivial⟩ fun base => ?_
 refine gX ?_
 refine H.Ar (b := pbb) (off := poff) (i := o) rfl (by rw [← hpp]; rfl) rfl (by omega) ho rfl ?_
 refine H.Ae rfl rfl rfl (by rw [Nat.mul_one]; exact rdp ho) rfl ?_
 refine H.Aa (x := fam (fun r => pstH _ _) _) (by repeat constructor) ?_
 refine H.Cf ho ?_
 refine pstH_openH fun eb ec => ?_
 refine gO ?_
 refine H.imp (zam (b := pb o) (eb := eb) (ec := ec) (s := l.past o)) ?_
 refine H.Ck (g := fun r => pstH (pb r) (l.past r)) ho ?_
 refine H.Aa (x := fam (chFam l cs) _) (by repeat constructor) ?_
 refine H.Aa (x := slc cp _ cc _ _ _) (by repeat constructor) ?_
 refine H.Aa (x := fam (fun r => pstH _ _) _) (by repeat constructor) ?_
 refine H.Aa (x := lst (V.map VV.own)) (by repeat constructor) ?_
 refine H.Aa (x := slc vp _ vc _ _ _) (by repeat constructor) ?_
 refine H.Aa (x := row lb _ _) (by repeat constructor) ?_
 refine H.imp (zai ⟨V, vp, vc, pp, pc, cp, cc, pb, cs⟩ hi) ?_
 exact H.Ac rfl rfl (fun _ h => h) ⟨rfl, rfl, rfl⟩
theorem byte_toNat {k : Nat} (h : k < 256) : ((UInt8.ofNat k).toNat : Int) = (k : Int) := by
 rw [UInt8.toNat_ofNat']
 omega
set_option maxHeartbeats 1600000 in
theorem ask_fn (x : A15) : Fn Tryz.prog 116 [.agg x.vals.toArray] f F (Ret (.agg x.req.vals.toArray) f F) := by
 have hcm : ((x.client.toNat % 3 : Nat) : Int) ≤ 2 := by omega
 have hkm : ((x.key.toNat % 4 : Nat) : Int) ≤ 3 := by omega
 have htm : ((x.time.toNat % 10 : Nat) : Int) ≤ 9 := by omega
 have ht := x.time.toNat_lt
 have hsg := fun G => rsigned_fn f G x.req0
 refine Fn.enter Tryz.func116 rfl Tryz.ntmps116 rfl (L := [(0, _)]) ⟨rfl, trivial⟩ fun base => ?_
 refine gC ?_
 refine H.box (ls := x.vals) rfl rfl rfl rfl fun xb => ?_
 refine H.Au (ls := Req.zero.vals) rfl rfl rfl fun ob => ?_
 refine gX ?_
 refine H.rem (z := ((x.client.toNat % 3 : Nat) : Int)) rfl rfl rfl (by decide) (zal (b := 3) rfl) rfl ?_
 refine gP ?_
 refine H.rem (z := ((x.key.toNat % 4 : Nat) : Int)) rfl rfl rfl (by decide) (zal (b := 4) rfl) rfl ?_
 refine gW ?_
 refine H.know (d := 16) (u := .int .u8 ((UInt8.ofNat (97 + x.key.toNat % 4)).toNat : Nat)) rfl (by rw [byte_toNat (by omega)]; rfl) ?_
 refine H.Ba (out := bytesV [UInt8.ofNat (97 + x.key.toNat % 4)]) rfl rfl rfl rfl (by decide) (by decide) rfl rfl fun eb => ?_
 refine H.convBS (bs := [UInt8.ofNat (97 + x.key.toNat % 4)]) rfl rfl (Src.slice (Rd.ofRow (.here _ _ _)) rfl) (fun h => by cases h) rfl ?_
 refine gP ?_
 refine H.rem (z := ((x.time.toNat % 10 : Nat) : Int)) rfl rfl rfl (by decide) (zal (b := 10) rfl) rfl ?_
 refine gW ?_
 refine H.know (d := 22) (u := .int .u8 ((UInt8.ofNat (48 + x.time.toNat % 10)).toNat : Nat)) rfl (by rw [byte_toNat (by omega)]; rfl) ?_
 refine H.Ba (out := bytesV [UInt8.ofNat (48 + x.time.toNat % 10)]) rfl rfl rfl rfl (by decide) (by decide) rfl rfl fun eb2 => ?_
 refine H.convBS (bs := [UInt8.ofNat (48 + x.time.toNat % 10)]) rfl rfl (Src.slice (Rd.ofRow (.here _ _ _)) rfl) (fun h => by cases h) rfl ?_
 refine H.Ab (.here _ _) ?_
 refine H.Ab (.here _ _) ?_
 repeat (first | (refine H.Bc (t := 42) (out := x.req0.vals) rfl rfl rfl (by kernel_rfl) rfl ?_) | ((apply H.Bc); (iterate 5 exact rfl)))
 refine H.Au (ls := Req.zero.vals) rfl rfl rfl fun rb => ?_
 refine H.Ak (ls := Req.zero.vals) (vs := x.req0.vals) (ls' := x.req0.vals) rfl rfl rfl (zad rfl) rfl rfl (Nat.le_refl 40) (.here _ _ _) ?_
 refine gX ?_
 unfold A15.req
 cases hno : x.no with
 | true =>
  refine ge ?_
  refine H.Ah (ls := x.req0.vals) rfl rfl rfl (Rd.ofRow (.here _ _ _)) rfl rfl ?_
  refine H.Ak (ls := Req.zero.vals) (vs := x.req0.vals) (ls' := x.req0.vals) rfl rfl rfl (zad rfl) rfl rfl (Nat.le_refl 40) (.there _ (.here _ _ _)) ?_
  refine ga ?_
  refine H.Ab (.here _ _) ?_
  refine H.Ab (x := row xb _ _) (by repeat constructor) ?_
  exact H.Bb (ls := x.req0.vals) rfl rfl rfl (Rd.ofRow (.here _ _ _)) rfl (fun _ s => s.drop (.here _ _)) ⟨rfl, rfl, rfl⟩
 | false =>
  refine gW ?_
  refine H.Ah (ls := x.req0.vals) rfl rfl rfl (Rd.ofRow (.here _ _ _)) rfl rfl ?_
  refine H.Af rfl rfl rfl (hsg _) ?_
  refine H.Ak (ls := Req.zero.vals) (vs := x.req0.signed.vals) (ls' := x.req0.signed.vals) rfl rfl rfl (zad rfl) rfl rfl (Nat.le_refl 40) (.there _ (.here _ _ _)) ?_
  refine ga ?_
  refine H.Ab (.here _ _) ?_
  refine H.Ab (x := row xb _ _) (by repeat constructor) ?_
  exact H.Bb (ls := x.req0.signed.vals) rfl rfl rfl (Rd.ofRow (.here _ _ _)) rfl (fun _ s => s.drop (.here _ _)) ⟨rfl, rfl, rfl⟩
end
def A15.Has (f : Frag) (x : A15) : Prop := BAt f x.qp x.q
theorem qAcc_stop {row : Nat → List (Int × Int)} {half : Nat} : ∀ {k m : Nat}, k ≤ m → half < (qAcc row half k).length → qAcc row half m = qAcc row half k
 | k, 0, h, _ => by
  have : k = 0 := by omega
  rw [this]
 | k, m + 1, h, hl => by
  by_cases e : k = m + 1
  ·rw [e]
  ·have ih := qAcc_stop (m := m) (by omega) hl
   show (if (qAcc row half m).length ≤ half then qAcc row half m ++ row m else qAcc row half m) = _
   rw [ih, if_neg (by omega)]
def qPart (ch : Nat → List (Int × Int)) (kv : Nat → Int) (v : Int) (raw : Bool) (r i : Nat) : List (Int × Int) := (((ch r).take i).filter fun c => decide (c.1 = v) && decide (c.2 ≤ kv r) && !raw).map fun c => (((r + 1 : Nat) : Int), c.2)
theorem qPart_all (ch : Nat → List (Int × Int)) (kv : Nat → Int) (v : Int) (raw : Bool) (r : Nat) : qPart ch kv v raw r (ch r).length = qRow ch kv v raw r := by unfold qPart qRow; rw [List.take_length]
theorem qPart_next {ch : Nat → List (Int × Int)} {kv : Nat → Int} {v : Int} {raw : Bool} {r i : Nat} {c : Int × Int} (hc : (ch r)[i]? = some c) : qPart ch kv v raw r (i + 1) = qPart ch kv v raw r i ++ (if (decide (c.1 = v) && decide (c.2 ≤ kv r) && !raw) = true then [(((r + 1 : Nat) : Int), c.2)] else []) := by
 unfold qPart
 rw [filt_take hc, List.map_append]
 congr 1
 split <;> rfl
theorem qPart_len (ch : Nat → List (Int × Int)) (kv : Nat → Int) (v : Int) (raw : Bool) (r i : Nat) : (qPart ch kv v raw r i).length ≤ (ch r).length := by
 unfold qPart
 rw [List.length_map]
 refine Nat.le_trans (List.length_filter_le _ _) ?_
 rw [List.length_take]
 omega
section
variable (f : Frag) (F : List HP)
set_option maxRecDepth 20000 in
set_option maxHeartbeats 3200000 in
theorem q15_fn {fl : Frag} (hfl : Le fl f) {wb kb lb : Nat} {l : Lgs} {T : Nat} (hL : LI l T) (hT : T ≤ 1000) {ap : Option Addr} {m ac n o : Nat} (hnn : l.n = n) (ho : o < n) {kv : Nat → Nat → Int} {x : A15} (hx : x.Has f) (hq20 : x.q.length ≤ 20) (v : Int) :
  Fn Tryz.prog 118 [.pointer (some ⟨wb, 0, none⟩), .int .i64 ((o + 1 : Nat) : Int), .agg x.vals.toArray, .int .u64 v] f (logsH fl lb l :: row wb 96 (w15C kb n ap m ac lb) :: row kb 37 (kRow n kv) :: F)
   (RetE (fun i : Option Addr × Nat => .slice i.1 (x.qs n l.ch (kv o) v).length i.2) f (fun i => slc i.1 (x.qs n l.ch (kv o) v).length i.2 61 2 ((x.qs n l.ch (kv o) v).flatMap pairV) :: logsH fl lb l :: row wb 96 (w15C kb n ap m ac lb) :: row kb 37 (kRow n kv) :: F)) := by
 refine Fn.unpack fun i0 hi => ?_
 obtain ⟨V, vp, vc, pp, pc, cp, cc, pb, cs⟩ := i0
 have hn := hL.n3
 obtain ⟨acc, hacc⟩ : ∃ acc : Nat → List (Int × Int), acc = qAcc (qRow l.ch (kv o) v x.raw) ((n - 1) / 2) := ⟨_, rfl⟩
 have hal : ∀ k, (acc k).length ≤ (n - 1) / 2 + T := fun k => by rw [hacc]; exact qAcc_len (fun r => Nat.le_trans (qRow_len _ _ _ _ r) (hL.cl r)) k
 show Fn _ _ _ f (row lb 200 (lgC l.n l.known vp V.length vc pp pc cp cc) :: slc vp V.length vc 195 4 (V.flatMap VV.vals) :: lst (V.map VV.own) :: fam (fun r => pstH (pb r) (l.past r)) l.n :: slc cp l.n cc 232 1 (chRow l cs) :: fam (chFam l cs) l.n :: row wb 96 (w15C kb n ap m ac lb) :: row kb 37 (kRow n kv) :: F) _
 refine Fn.enter Tryz.func118 rfl Tryz.ntmps118 rfl (L := [(0, _), (1, _), (2, _), (3, _)]) ⟨rfl, rfl, rfl, rfl, trivial⟩ fun base => ?_
 refine gC ?_
 refine H.box (ls := x.vals) rfl rfl rfl rfl fun xb => ?_
 refine gO ?_
 refine H.slc0 61 2 ?_
 refine H.Aa (x := fam (chFam l cs) _) (by repeat constructor) ?_
 refine H.Aa (x := slc cp _ cc _ _ _) (by repeat constructor) ?_
 refine H.Aa (x := fam (fun r => pstH _ _) _) (by repeat constructor) ?_
 refine H.Aa (x := lst (V.map VV.own)) (by repeat constructor) ?_
 refine H.Aa (x := slc vp _ vc _ _ _) (by repeat constructor) ?_
 refine H.Aa (x := row lb _ _) (by repeat constructor) ?_
 refine H.Aa (x := row kb _ _) (by repeat constructor) ?_
 refine H.Aa (x := row wb _ _) (by repeat constructor) ?_
 refine H.Aa (x := slc none _ _ _ _ _) (by repeat constructor) ?_
 refine H.Aa (x := row xb _ _) (by repeat constructor) ?_
 refine H.Aw (ι := Nat × Option Addr × Nat) (fun s => [(11, .int .i64 ((s.1 + 1 : Nat) : Int)), (9, .slice s.2.1 (acc s.1).length s.2.2), (10, .int .i64 (n : Int)), (0, .pointer (some ⟨wb, 0, none⟩)), (1, .int .i64 ((o + 1 : Nat) : Int)), (3, .int .u64 v), (6, .pointer (some ⟨xb, 0, none⟩))]) (fun _ => f)
  (fun s => row xb 144 x.vals :: slc s.2.1 (acc s.1).length s.2.2 61 2 ((acc s.1).flatMap pairV) :: row wb 96 (w15C kb n ap m ac lb) :: row kb 37 (kRow n kv) :: row lb 200 (lgC l.n l.known vp V.length vc pp pc cp cc) :: slc vp V.length vc 195 4 (V.flatMap VV.vals) :: lst (V.map VV.own) :: fam (fun r => pstH (pb r) (l.past r)) l.n :: slc cp l.n cc 232 1 (chRow l cs) :: fam (chFam l cs) l.n :: F)
  (fun s => s.1 ≤ n) (fun s => n - s.1) (0, none, 0) (Nat.zero_le _) ⟨rfl, by rw [hacc]; rfl, rfl, rfl, rfl, rfl, rfl, trivial⟩ rfl (by rw [hacc]; rfl) fun s hs => ?_
 obtain ⟨r, qp, qc⟩ := s
 have hrn : r ≤ n := hs
 have halr := hal r
 show H _ _ _ [(11, .int .i64 ((r + 1 : Nat) : Int)), (9, .slice qp (acc r).length qc), _, _, _, _, _] f (_ :: slc qp (acc r).length qc _ 2 ((acc r).flatMap pairV) :: _ :: _ :: _ :: _ :: _ :: _ :: _ :: _ :: F) _
 have hquo : (((n : Int) - 1).tdiv 2) = (((n - 1) / 2 : Nat) : Int) := by
  rw [show ((n : Int) - 1) = ((n - 1 : Nat) : Int) by omega]
  exact (Int.ofNat_tdiv (n - 1) 2).symm
 by_cases hgo : r < n ∧ (acc r).length ≤ (n - 1) / 2
 ·obtain ⟨hr, hlen⟩ := hgo
  have hrl : r < l.n := by omega
  have hcl := hL.cl r
  have hr11 : r < 11 := by omega
  refine H.Bq (p := cp) (n0 := l.n) (c := cc) (T := 232) (sz := 1) (xs := chRow l cs) (by repeat constructor) (by omega) fun cb hcb => ?_
  have hCd : ∀ {A A' : List HP}, At A (slc cp l.n cc 232 1 (chRow l cs)) A' (slc cp l.n cc 232 1 (chRow l cs)) → Rd f A cb 0 (chRow l cs) := fun {A A'} h => Rd.ofSlc (n := l.n) (c := cc) (T := 232) (sz := 1) (by rw [← hcb]; exact h) (by omega)
  have hsucc : acc (r + 1) = acc r ++ qRow l.ch (kv o) v x.raw r := by
   rw [hacc] at hlen ⊢
   show (if _ then _ else _) = _
   rw [if_pos hlen]
  refine gK ?_
  refine H.quo (z := (((n - 1) / 2 : Nat) : Int)) rfl rfl rfl (by decide) (by rw [hquo, wr_i64 (by omega)]) rfl ?_
  refine gU ?_
  refine H.Ar (b := cb) (off := 0) (i := r) rfl (by rw [← hcb]; rfl) rfl (by omega) hrl rfl ?_
  refine H.Ae rfl rfl rfl (by rw [Nat.zero_add, Nat.mul_one]; exact Rd1.at0 (hCd (by repeat constructor)) (rngV_get _ hrl)) rfl ?_
  refine ga ?_
  refine H.Aa (x := fam (chFam l cs) _) (by repeat constructor) ?_
  refine H.Cf hrl ?_
  refine H.Aa (x := fam (updF _ _ _) _) (by repeat constructor) ?_
  refine H.Aa (x := slc cp _ cc _ _ _) (by repeat constructor) ?_
  refine H.Aa (x := fam (fun r => pstH _ _) _) (by repeat constructor) ?_
  refine H.Aa (x := lst (V.map VV.own)) (by repeat constructor) ?_
  refine H.Aa (x := slc vp _ vc _ _ _) (by repeat constructor) ?_
  refine H.Aa (x := row lb _ _) (by repeat constructor) ?_
  refine H.Aa (x := row kb _ _) (by repeat constructor) ?_
  refine H.Aa (x := row wb _ _) (by repeat constructor) ?_
  refine H.Aa (x := slc qp _ qc _ _ _) (by repeat constructor) ?_
  refine H.Aa (x := chFam l cs r) (by repeat constructor) ?_
  refine H.Aa (x := row xb _ _) (by repeat constructor) ?_
  obtain ⟨pt, hpt⟩ : ∃ pt : Nat → List (Int × Int), pt = fun i => acc r ++ qPart l.ch (kv o) v x.raw r i := ⟨_, rfl⟩
  have hp0 : pt 0 = acc r := by rw [hpt]; show acc r ++ [] = _; rw [List.append_nil]
  have hpl : ∀ i, (pt i).length ≤ (n - 1) / 2 + T + T := fun i => by
   rw [hpt]
   show (acc r ++ _).length ≤ _
   rw [List.length_append]
   have := qPart_len l.ch (kv o) v x.raw r i
   omega
  refine H.Aw (ι := Nat × Option Addr × Nat) (fun s => [(13, .int .i64 (s.1 : Int)), (12, .slice (cs r).1 (l.ch r).length (cs r).2), (9, .slice s.2.1 (pt s.1).length s.2.2), (11, .int .i64 ((r + 1 : Nat) : Int)), (10, .int .i64 (n : Int)), (0, .pointer (some ⟨wb, 0, none⟩)), (1, .int .i64 ((o + 1 : Nat) : Int)), (3, .int .u64 v), (6, .pointer (some ⟨xb, 0, none⟩))]) (fun _ => f)
   (fun s => row xb 144 x.vals :: chFam l cs r :: slc s.2.1 (pt s.1).length s.2.2 61 2 ((pt s.1).flatMap pairV) :: row wb 96 (w15C kb n ap m ac lb) :: row kb 37 (kRow n kv) :: row lb 200 (lgC l.n l.known vp V.length vc pp pc cp cc) :: slc vp V.length vc 195 4 (V.flatMap VV.vals) :: lst (V.map VV.own) :: fam (fun r => pstH (pb r) (l.past r)) l.n :: slc cp l.n cc 232 1 (chRow l cs) :: fam (updF (chFam l cs) r emp) l.n :: F)
   (fun s => s.1 ≤ (l.ch r).length) (fun s => (l.ch r).length - s.1) (0, qp, qc) (Nat.zero_le _) ⟨rfl, rfl, by rw [hp0]; rfl, rfl, rfl, rfl, rfl, rfl, rfl, trivial⟩ rfl (by rw [hp0]) fun s hs => ?_
  obtain ⟨i, qp, qc⟩ := s
  have hi2 : i ≤ (l.ch r).length := hs
  have hpli := hpl i
  show H _ _ _ [(13, .int .i64 (i : Int)), _, (9, .slice qp (pt i).length qc), _, _, _, _, _, _] f (_ :: _ :: slc qp (pt i).length qc _ 2 ((pt i).flatMap pairV) :: _ :: _ :: _ :: _ :: _ :: _ :: _ :: _ :: F) _
  by_cases hlt : i < (l.ch r).length
  ·obtain ⟨y, hy⟩ : ∃ y, (l.ch r)[i]? = some y := ⟨_, List.getElem?_eq_getElem hlt⟩
   refine H.Bq (p := (cs r).1) (n0 := (l.ch r).length) (c := (cs r).2) (T := 234) (sz := 2) (xs := (l.ch r).flatMap chV) (.there _ (.here _ _ _)) (by omega) fun sb hp => ?_
   have rd : ∀ {G0 : HP} {G : List HP}, Rd f (G0 :: chFam l cs r :: G) sb (0 + i * 2) (chV y) := fun {G0 G} => by
    rw [Nat.zero_add]; exact Rd.slcElem (vals := chV) (xs := l.ch r) (n := (l.ch r).length) (c := (cs r).2) (T := 234) chV_len (by decide) (by rw [← hp]; exact .there _ (.here _ _ _)) hy
   have hnx : pt (i + 1) = pt i ++ (if (decide (y.1 = v) && decide (y.2 ≤ kv o r) && !x.raw) = true then [(((r + 1 : Nat) : Int), y.2)] else []) := by
    rw [hpt]
    show acc r ++ qPart _ _ _ _ _ (i + 1) = acc r ++ qPart _ _ _ _ _ i ++ _
    rw [qPart_next hy, List.append_assoc]
   refine gJ ?_
   refine H.Bj (by kernel_rfl) (by decide +kernel) (by repeat (first | exact zab | refine zaa ?_ | refine zac ?_ | refine zae ?_)) ?_
   refine gD ?_
   refine HQ.Ar (b := sb) (off := 0) (i := i) rfl (by rw [← hp]; rfl) rfl rfl hlt rfl ?_
   refine gE ?_
   refine HQ.Ae rfl rfl rfl (Rd1.of (i := 0) rd rfl) rfl ?_
   refine gS ?_
   by_cases h1 : y.1 = v
   ·skip
    refine gc ?_
    refine HQ.Ar (b := sb) (off := 0) (i := i) rfl (by rw [← hp]; rfl) rfl rfl hlt rfl ?_
    refine gE ?_
    refine HQ.Ae rfl rfl rfl (Rd1.of (i := 1) rd rfl) rfl ?_
    refine gT ?_
    refine HQ.Ar (b := kb) (off := 0) (i := o) rfl rfl rfl (by omega) ho rfl ?_
    refine HQ.Ay (i := r) rfl rfl rfl (by omega) hr11 rfl ?_
    refine HQ.Ae rfl rfl rfl (by rw [Nat.zero_add, Nat.mul_one]; exact Rd1.of (Rd.kRow (Rd.ofRow (by repeat constructor)) ho) (zao (kv o) hr11)) rfl ?_
    refine gS ?_
    by_cases h2 : y.2 ≤ kv o r
    ·by_cases hraw : x.raw = true
     ·have hr1 : (!x.raw) = false := by rw [hraw]; rfl
      rw [hraw, Bool.not_true, Bool.and_false, if_neg (by decide), List.append_nil] at hnx
      refine gc ?_
      refine gf ?_
      refine H.Aa (x := slc qp _ qc _ _ _) (by repeat constructor) ?_
      refine H.Aa (x := chFam l cs r) (by repeat constructor) ?_
      refine H.Aa (x := row xb _ _) (by repeat constructor) ?_
      refine H.Am (i + 1, qp, qc) (by show i + 1 ≤ (l.ch r).length; omega) (by show (l.ch r).length - (i + 1) < (l.ch r).length - i; omega) ⟨rfl, rfl, ?_, rfl, rfl, rfl, rfl, rfl, rfl, trivial⟩ rfl ?_
      ·show some (Value.slice qp _ qc) = some (Value.slice qp _ qc)
       rw [hnx]
      ·show _ :: _ :: slc qp _ qc _ 2 _ :: _ = _ :: _ :: slc qp _ qc _ 2 _ :: _
       rw [hnx]
     ·have hraw : x.raw = false := by
       cases e : x.raw with
       | true => exact absurd e hraw
       | false => rfl
      have hr1 : (!x.raw) = true := by rw [hraw]; rfl
      rw [hraw, decide_eq_true h1, decide_eq_true h2, if_pos (by decide)] at hnx
      refine gc ?_
      refine gZ ?_
      refine H.Ar (b := sb) (off := 0) (i := i) rfl (by rw [← hp]; rfl) rfl rfl hlt rfl ?_
      refine gP ?_
      refine H.Ae rfl rfl rfl (Rd1.of (i := 1) rd rfl) rfl ?_
      refine gV ?_
      refine H.Ba (out := pairV (((r + 1 : Nat) : Int), y.2)) rfl rfl rfl rfl (by decide) (by decide) rfl rfl fun eb => ?_
      refine H.Bd (sz := 2) (p := qp) (n0 := (pt i).length) (c := qc) (xs := (pt i).flatMap pairV) (m := 1) (news := pairV (((r + 1 : Nat) : Int), y.2)) rfl rfl rfl rfl rfl (fun p' c' => (by repeat constructor)) (Src.slice (Rd.ofRow (by repeat constructor)) rfl) (zad rfl) rfl (by omega) (by omega) fun p2 c2 => ?_
      refine gW ?_
      refine H.Ab (x := row eb _ _) (by repeat constructor) ?_
      refine H.Am (i + 1, p2, c2) (by show i + 1 ≤ (l.ch r).length; omega) (by show (l.ch r).length - (i + 1) < (l.ch r).length - i; omega) ⟨rfl, rfl, ?_, rfl, rfl, rfl, rfl, rfl, rfl, trivial⟩ rfl ?_
      ·show some (Value.slice p2 ((pt i).length + 1) c2) = some (Value.slice p2 (pt (i + 1)).length c2)
       rw [hnx, List.length_append]
       rfl
      ·show _ :: _ :: slc p2 ((pt i).length + 1) c2 _ 2 _ :: _ = _ :: _ :: slc p2 (pt (i + 1)).length c2 _ 2 ((pt (i + 1)).flatMap pairV) :: _
       rw [hnx, List.length_append, List.flatMap_append]
       simp
    ·rw [decide_eq_false h2, Bool.and_false, Bool.false_and, if_neg (by decide), List.append_nil] at hnx
     refine gc ?_
     refine gW ?_
     refine H.Aa (x := slc qp _ qc _ _ _) (by repeat constructor) ?_
     refine H.Aa (x := chFam l cs r) (by repeat constructor) ?_
     refine H.Aa (x := row xb _ _) (by repeat constructor) ?_
     refine H.Am (i + 1, qp, qc) (by show i + 1 ≤ (l.ch r).length; omega) (by show (l.ch r).length - (i + 1) < (l.ch r).length - i; omega) ⟨rfl, rfl, ?_, rfl, rfl, rfl, rfl, rfl, rfl, trivial⟩ rfl ?_
     ·show some (Value.slice qp _ qc) = some (Value.slice qp _ qc)
      rw [hnx]
     ·show _ :: _ :: slc qp _ qc _ 2 _ :: _ = _ :: _ :: slc qp _ qc _ 2 _ :: _
      rw [hnx]
   ·rw [decide_eq_false h1, Bool.false_and, Bool.false_and, if_neg (by decide), List.append_nil] at hnx
    refine gc ?_
    refine gW ?_
    refine H.Aa (x := slc qp _ qc _ _ _) (by repeat constructor) ?_
    refine H.Aa (x := chFam l cs r) (by repeat constructor) ?_
    refine H.Aa (x := row xb _ _) (by repeat constructor) ?_
    refine H.Am (i + 1, qp, qc) (by show i + 1 ≤ (l.ch r).length; omega) (by show (l.ch r).length - (i + 1) < (l.ch r).length - i; omega) ⟨rfl, rfl, ?_, rfl, rfl, rfl, rfl, rfl, rfl, trivial⟩ rfl ?_
    ·show some (Value.slice qp _ qc) = some (Value.slice qp _ qc)
     rw [hnx]
    ·show _ :: _ :: slc qp _ qc _ 2 _ :: _ = _ :: _ :: slc qp _ qc _ 2 _ :: _
     rw [hnx]
  ·have e : i = (l.ch r).length := by omega
   subst e
   have hpe : pt (l.ch r).length = acc (r + 1) := by rw [hsucc, hpt, ← qPart_all]
   rw [hpe]
   refine gL ?_
   refine H.Aa (x := fam (updF _ _ _) _) (by repeat constructor) ?_
   refine H.Aa (x := chFam l cs r) (by repeat constructor) ?_
   refine H.Ck (g := chFam l cs) hrl ?_
   refine H.Aa (x := fam (chFam l cs) _) (by repeat constructor) ?_
   refine H.Aa (x := slc cp _ cc _ _ _) (by repeat constructor) ?_
   refine H.Aa (x := fam (fun r => pstH _ _) _) (by repeat constructor) ?_
   refine H.Aa (x := lst (V.map VV.own)) (by repeat constructor) ?_
   refine H.Aa (x := slc vp _ vc _ _ _) (by repeat constructor) ?_
   refine H.Aa (x := row lb _ _) (by repeat constructor) ?_
   refine H.Aa (x := row kb _ _) (by repeat constructor) ?_
   refine H.Aa (x := row wb _ _) (by repeat constructor) ?_
   refine H.Aa (x := slc qp _ qc _ _ _) (by repeat constructor) ?_
   refine H.Aa (x := row xb _ _) (by repeat constructor) ?_
   exact H.Am (r + 1, qp, qc) (by show r + 1 ≤ n; omega) (by show n - (r + 1) < n - r; omega) ⟨rfl, rfl, rfl, rfl, rfl, rfl, rfl, trivial⟩ rfl rfl
 ·have hfin : acc n = acc r := by
   by_cases e : r = n
   ·rw [e]
   ·rw [hacc]
    exact qAcc_stop hrn (by rw [← hacc]; omega)
  have hqe : qAcc (qRow l.ch (kv o) v x.raw) ((n - 1) / 2) n = acc r := by rw [← hfin, hacc]
  by_cases hr : r < n
  ·have hlen : (n - 1) / 2 < (acc r).length := by omega
   refine gK ?_
   refine H.quo (z := (((n - 1) / 2 : Nat) : Int)) rfl rfl rfl (by decide) (by rw [hquo, wr_i64 (by omega)]) rfl ?_
   have h0 : 0 < (acc r).length := by omega
   refine gQ ?_
   refine H.Ab (x := row xb _ _) (by repeat constructor) ?_
   refine H.Aa (x := fam (chFam l cs) _) (by repeat constructor) ?_
   refine H.Aa (x := slc cp _ cc _ _ _) (by repeat constructor) ?_
   refine H.Aa (x := fam (fun r => pstH _ _) _) (by repeat constructor) ?_
   refine H.Aa (x := lst (V.map VV.own)) (by repeat constructor) ?_
   refine H.Aa (x := slc vp _ vc _ _ _) (by repeat constructor) ?_
   refine H.Aa (x := row lb _ _) (by repeat constructor) ?_
   refine H.imp (zai ⟨V, vp, vc, pp, pc, cp, cc, pb, cs⟩ hi) ?_
   refine H.Aa (x := slc qp _ qc _ _ _) (by repeat constructor) ?_
   have hqs : x.qs n l.ch (kv o) v = acc r := by unfold A15.qs; rw [hqe, if_pos (.inl h0)]
   rw [hqs]
   exact H.Ac rfl rfl (fun _ h => h) ⟨(qp, qc), rfl, rfl, rfl⟩
  ·by_cases h0 : 0 < (acc r).length
   ·skip
    refine gR ?_
    refine H.Ab (x := row xb _ _) (by repeat constructor) ?_
    refine H.Aa (x := fam (chFam l cs) _) (by repeat constructor) ?_
    refine H.Aa (x := slc cp _ cc _ _ _) (by repeat constructor) ?_
    refine H.Aa (x := fam (fun r => pstH _ _) _) (by repeat constructor) ?_
    refine H.Aa (x := lst (V.map VV.own)) (by repeat constructor) ?_
    refine H.Aa (x := slc vp _ vc _ _ _) (by repeat constructor) ?_
    refine H.Aa (x := row lb _ _) (by repeat constructor) ?_
    refine H.imp (zai ⟨V, vp, vc, pp, pc, cp, cc, pb, cs⟩ hi) ?_
    refine H.Aa (x := slc qp _ qc _ _ _) (by repeat constructor) ?_
    have hqs : x.qs n l.ch (kv o) v = acc r := by unfold A15.qs; rw [hqe, if_pos (.inl h0)]
    rw [hqs]
    exact H.Ac rfl rfl (fun _ h => h) ⟨(qp, qc), rfl, rfl, rfl⟩
   ·by_cases hq0 : x.q.length = 0
    ·skip
     refine gH ?_
     refine H.Ab (x := row xb _ _) (by repeat constructor) ?_
     refine H.Aa (x := fam (chFam l cs) _) (by repeat constructor) ?_
     refine H.Aa (x := slc cp _ cc _ _ _) (by repeat constructor) ?_
     refine H.Aa (x := fam (fun r => pstH _ _) _) (by repeat constructor) ?_
     refine H.Aa (x := lst (V.map VV.own)) (by repeat constructor) ?_
     refine H.Aa (x := slc vp _ vc _ _ _) (by repeat constructor) ?_
     refine H.Aa (x := row lb _ _) (by repeat constructor) ?_
     refine H.imp (zai ⟨V, vp, vc, pp, pc, cp, cc, pb, cs⟩ hi) ?_
     refine H.Aa (x := slc qp _ qc _ _ _) (by repeat constructor) ?_
     have hqs : x.qs n l.ch (kv o) v = acc r := by unfold A15.qs; rw [if_pos (.inr hq0), hqe]
     rw [hqs]
     exact H.Ac rfl rfl (fun _ h => h) ⟨(qp, qc), rfl, rfl, rfl⟩
    ·have hnil : acc r = [] := List.eq_nil_of_length_eq_zero (by omega)
     have hqs : x.qs n l.ch (kv o) v = qNum x.q (if n ≤ x.q.length then n else x.q.length) := by
      unfold A15.qs
      rw [hqe, if_neg (by rintro (h | h); exact h0 h; exact hq0 h)]
     rw [hqs, hnil]
     clear hqs hqe hfin
     refine gH ?_
     rcases hx with e0 | ⟨qb, qoff, qcs, qT, qfr, hqp, hqfb, hqcs⟩
     ·rw [e0] at hq0; exact absurd rfl hq0
     ·have hrdo : ∀ A, Rd f A qb qoff (bytesV x.q) := fun A => Rd.imm hqfb fun j hj => by rw [zaf] at hj; exact hqcs j hj
      refine H.Aw (ι := Nat × Option Addr × Nat) (fun s => [(14, .int .i64 ((s.1 + 1 : Nat) : Int)), (9, .slice s.2.1 s.1 s.2.2), (10, .int .i64 (n : Int)), (6, .pointer (some ⟨xb, 0, none⟩))]) (fun _ => f)
       (fun s => row xb 144 x.vals :: slc s.2.1 s.1 s.2.2 61 2 ((qNum x.q s.1).flatMap pairV) :: row wb 96 (w15C kb n ap m ac lb) :: row kb 37 (kRow n kv) :: row lb 200 (lgC l.n l.known vp V.length vc pp pc cp cc) :: slc vp V.length vc 195 4 (V.flatMap VV.vals) :: lst (V.map VV.own) :: fam (fun r => pstH (pb r) (l.past r)) l.n :: slc cp l.n cc 232 1 (chRow l cs) :: fam (chFam l cs) l.n :: F)
       (fun s => s.1 ≤ n ∧ s.1 ≤ x.q.length) (fun s => n - s.1) (0, qp, qc) ⟨Nat.zero_le _, Nat.zero_le _⟩ ⟨rfl, rfl, rfl, rfl, trivial⟩ rfl rfl fun s hs => ?_
      obtain ⟨j, qp, qc⟩ := s
      obtain ⟨hj1, hj2⟩ : j ≤ n ∧ j ≤ x.q.length := hs
      show H _ _ _ [(14, .int .i64 ((j + 1 : Nat) : Int)), (9, .slice qp j qc), _, _] f (_ :: slc qp j qc _ 2 ((qNum x.q j).flatMap pairV) :: _ :: _ :: _ :: _ :: _ :: _ :: _ :: _ :: F) _
      by_cases hgo : j < n ∧ j < x.q.length
      ·obtain ⟨hjn, hjq⟩ := hgo
       obtain ⟨w8, hw8⟩ : ∃ w8, x.q[j]? = some w8 := ⟨_, List.getElem?_eq_getElem hjq⟩
       have hby : (bytesV x.q)[j]? = some (.int .u8 (w8.toNat : Nat)) := by unfold bytesV; rw [List.getElem?_map, hw8]; rfl
       have hw8l := w8.toNat_lt
       have hm8 : ((w8.toNat % 8 : Nat) : Int) ≤ 7 := by omega
       have hnx : qNum x.q (j + 1) = qNum x.q j ++ [(((j + 1 : Nat) : Int), 1 + ((w8.toNat % 8 : Nat) : Int))] := by
        show qNum x.q j ++ [(_, 1 + (((x.q.getD j 0).toNat % 8 : Nat) : Int))] = _
        rw [List.getD_eq_getElem?_getD, hw8]
        rfl
       refine gU ?_
       refine H.Ch (b := qb) (off := qoff) (i := j) rfl (by rw [← hqp]; rfl) rfl (by omega) hjq rfl ?_
       refine H.Ae rfl rfl rfl (Rd1.of (hrdo _) hby) rfl ?_
       refine H.rem (z := ((w8.toNat % 8 : Nat) : Int)) rfl rfl rfl (by decide) (zal (b := 8) rfl) rfl ?_
       refine gK ?_
       refine H.Ba (out := pairV (((j + 1 : Nat) : Int), 1 + ((w8.toNat % 8 : Nat) : Int))) rfl rfl rfl rfl (by decide) (by decide) rfl rfl fun eb => ?_
       refine H.Bd (sz := 2) (p := qp) (n0 := j) (c := qc) (xs := (qNum x.q j).flatMap pairV) (m := 1) (news := pairV (((j + 1 : Nat) : Int), 1 + ((w8.toNat % 8 : Nat) : Int))) rfl rfl rfl rfl rfl (fun p' c' => (by repeat constructor)) (Src.slice (Rd.ofRow (by repeat constructor)) rfl) (zad rfl) rfl (by omega) (by omega) fun p2 c2 => ?_
       refine gW ?_
       refine H.Ab (x := row eb _ _) (by repeat constructor) ?_
       refine H.Am (j + 1, p2, c2) ⟨by show j + 1 ≤ n; omega, by show j + 1 ≤ x.q.length; omega⟩ (by show n - (j + 1) < n - j; omega) ⟨rfl, rfl, rfl, rfl, trivial⟩ rfl ?_
       show _ :: slc p2 (j + 1) c2 _ 2 _ :: _ = _ :: slc p2 (j + 1) c2 _ 2 ((qNum x.q (j + 1)).flatMap pairV) :: _
       rw [hnx, List.flatMap_append]
       simp
      ·have hje : (if n ≤ x.q.length then n else x.q.length) = j := by split <;> omega
       rw [hje, qNum_len]
       by_cases hjn : j < n
       ·skip
        refine gU ?_
        refine H.Ab (x := row xb _ _) (by repeat constructor) ?_
        refine H.Aa (x := fam (chFam l cs) _) (by repeat constructor) ?_
        refine H.Aa (x := slc cp _ cc _ _ _) (by repeat constructor) ?_
        refine H.Aa (x := fam (fun r => pstH _ _) _) (by repeat constructor) ?_
        refine H.Aa (x := lst (V.map VV.own)) (by repeat constructor) ?_
        refine H.Aa (x := slc vp _ vc _ _ _) (by repeat constructor) ?_
        refine H.Aa (x := row lb _ _) (by repeat constructor) ?_
        refine H.imp (zai ⟨V, vp, vc, pp, pc, cp, cc, pb, cs⟩ hi) ?_
        refine H.Aa (x := slc qp _ qc _ _ _) (by repeat constructor) ?_
        exact H.Ac rfl rfl (fun _ h => h) ⟨(qp, qc), rfl, rfl, rfl⟩
       ·skip
        refine gR ?_
        refine H.Ab (x := row xb _ _) (by repeat constructor) ?_
        refine H.Aa (x := fam (chFam l cs) _) (by repeat constructor) ?_
        refine H.Aa (x := slc cp _ cc _ _ _) (by repeat constructor) ?_
        refine H.Aa (x := fam (fun r => pstH _ _) _) (by repeat constructor) ?_
        refine H.Aa (x := lst (V.map VV.own)) (by repeat constructor) ?_
        refine H.Aa (x := slc vp _ vc _ _ _) (by repeat constructor) ?_
        refine H.Aa (x := row lb _ _) (by repeat constructor) ?_
        refine H.imp (zai ⟨V, vp, vc, pp, pc, cp, cc, pb, cs⟩ hi) ?_
        refine H.Aa (x := slc qp _ qc _ _ _) (by repeat constructor) ?_
        exact H.Ac rfl rfl (fun _ h => h) ⟨(qp, qc), rfl, rfl, rfl⟩
end
def bodW (k : UInt8) (v kk : Int) : Bod := ⟨k, v, kk, Req.zero, [], noTag⟩
section
variable (f : Frag) (F : List HP)
set_option maxRecDepth 20000 in
set_option maxHeartbeats 3200000 in
theorem body15_fn {fl : Frag} (hfl : Le fl f) {wb kb lb : Nat} {W : W15} {n T : Nat} (hW : WI n W T) (hT : T ≤ 1000) {ap : Option Addr} {m ac o : Nat} (ho : o < n) {x : A15} (hx : x.Has f) (hq20 : x.q.length ≤ 20) :
  Fn Tryz.prog 94 [.pointer (some ⟨wb, 0, none⟩), .int .i64 ((o + 1 : Nat) : Int), .agg x.vals.toArray] f (logsH fl lb W.l :: row wb 96 (w15C kb n ap m ac lb) :: row kb 37 (kRow n W.w.kv) :: F)
   (BodP f (logsH fl lb W.l :: row wb 96 (w15C kb n ap m ac lb) :: row kb 37 (kRow n W.w.kv) :: F) (x.bod W n o)) := by
 have hn := hW.l.n3
 have hnn := hW.n
 have hol : o < W.l.n := by omega
 have hwf := hW.l.wf o hol
 have hg0 := hwf.g0
 have hg1 := hW.l.gb o hol
 have hvm : ((x.view.toNat % 6 : Nat) : Int) ≤ 5 := by omega
 have hv2 : ((x.view.toNat % 2 : Nat) : Int) ≤ 1 := by omega
 have hkm : ((x.k.toNat % 6 : Nat) : Int) ≤ 5 := by omega
 have hgr := fun G => great_fn f G hfl (wb := wb) (kb := kb) (lb := lb) (l := W.l) hW.l (ap := ap) (m := m) (ac := ac) (n := n) hol
 have hcases : x.kind.toNat % 6 = 0 ∨ x.kind.toNat % 6 = 1 ∨ x.kind.toNat % 6 = 2 ∨ x.kind.toNat % 6 = 3 ∨ x.kind.toNat % 6 = 4 ∨ x.kind.toNat % 6 = 5 := by omega
 unfold A15.bod
 rcases hcases with h | h | h | h | h | h
 ·have hk6 : ((x.kind.toNat : Nat) : Int).tmod 6 = 0 := zal (b := 6) h
  rw [h]
  have hask := fun G => ask_fn f G x
  rcases Bool.eq_false_or_eq_true x.raw with hraw | hraw
  ·have hr1 : (!x.raw) = false := by rw [hraw]; rfl
   have hb : x.bodK W n o 0 = (⟨1, ((x.view.toNat % 6 : Nat) : Int), 0, x.req, [], noTag⟩ : Bod) := by simp [A15.bodK, hraw, Bod.zero]
   rw [hb]
   generalize x.req = rq at hask ⊢
   refine Fn.enter Tryz.func94 rfl Tryz.ntmps94 rfl (L := [(0, _), (1, _), (2, _)]) ⟨rfl, rfl, rfl, trivial⟩ fun base => ?_
   refine gC ?_
   refine H.box (ls := x.vals) rfl rfl rfl rfl fun xb => ?_
   refine H.Au (ls := (Bod.zero 0).vals none 0) rfl rfl rfl fun ob => ?_
   refine gX ?_
   refine H.rem rfl rfl rfl (by decide) hk6 rfl ?_
   refine gP ?_
   refine H.rem (z := ((x.view.toNat % 6 : Nat) : Int)) rfl rfl rfl (by decide) (zal (b := 6) rfl) rfl ?_
   refine gP ?_
   refine H.rem (z := ((x.k.toNat % 6 : Nat) : Int)) rfl rfl rfl (by decide) (zal (b := 6) rfl) rfl ?_
   repeat (first | (refine H.Bc (t := 45) (out := (bodW 1 ((x.view.toNat % 6 : Nat) : Int) (1 + ((x.k.toNat % 6 : Nat) : Int))).vals none 0) rfl rfl rfl (by kernel_rfl) rfl ?_) | ((first | (apply H.ar; (iterate 4 exact rfl)) | (apply H.Bh; (iterate 2 exact rfl))); (with_reducible apply wr_u64; omega); exact rfl))
   refine H.Au (ls := (Bod.zero 0).vals none 0) rfl rfl rfl fun bb => ?_
   refine H.Ak (ls := (Bod.zero 0).vals none 0) (vs := (bodW 1 ((x.view.toNat % 6 : Nat) : Int) (1 + ((x.k.toNat % 6 : Nat) : Int))).vals none 0) (ls' := (bodW 1 ((x.view.toNat % 6 : Nat) : Int) (1 + ((x.k.toNat % 6 : Nat) : Int))).vals none 0) rfl rfl rfl (zad rfl) rfl rfl (Nat.le_refl 76) (.here _ _ _) ?_
   refine gN ?_
   refine H.Aa (x := row wb _ _) (by repeat constructor) ?_
   refine H.Aa (x := logsH _ _ _) (by repeat constructor) ?_
   refine H.Af rfl rfl rfl (hgr _) ?_
   refine H.Aa (x := row xb _ _) (by repeat constructor) ?_
   refine H.Aa (x := row bb _ _) (by repeat constructor) ?_
   refine gO ?_
   refine H.Ah (ls := x.vals) rfl rfl rfl (Rd.ofRow (.there _ (.here _ _ _))) rfl rfl ?_
   refine H.Af rfl rfl rfl (hask _) ?_
   refine gP ?_
   refine H.Ak (ls := (bodW 1 ((x.view.toNat % 6 : Nat) : Int) 0).vals none 0) (vs := rq.vals) (ls' := (⟨1, ((x.view.toNat % 6 : Nat) : Int), 0, rq, [], noTag⟩ : Bod).vals none 0) rfl rfl rfl (zad rfl) rfl rfl (show 3 + 40 ≤ 76 by decide) (.here _ _ _) ?_
   refine gf ?_
   refine H.Ah (ls := (⟨1, ((x.view.toNat % 6 : Nat) : Int), 0, rq, [], noTag⟩ : Bod).vals none 0) rfl rfl rfl (Rd.ofRow (.here _ _ _)) rfl rfl ?_
   refine H.Ak (ls := (Bod.zero 0).vals none 0) (vs := (⟨1, ((x.view.toNat % 6 : Nat) : Int), 0, rq, [], noTag⟩ : Bod).vals none 0) (ls' := (⟨1, ((x.view.toNat % 6 : Nat) : Int), 0, rq, [], noTag⟩ : Bod).vals none 0) rfl rfl rfl (zad rfl) rfl rfl (Nat.le_refl 76) (by repeat constructor) ?_
   refine ga ?_
   refine H.Ab (x := row bb _ _) (by repeat constructor) ?_
   refine H.Ab (x := row xb _ _) (by repeat constructor) ?_
   refine H.Aa (x := row kb _ _) (by repeat constructor) ?_
   refine H.Aa (x := row wb _ _) (by repeat constructor) ?_
   refine H.Aa (x := logsH _ _ _) (by repeat constructor) ?_
   refine H.Aa (x := row ob _ _) (by repeat constructor) ?_
   exact H.Bb (ls := (⟨1, ((x.view.toNat % 6 : Nat) : Int), 0, rq, [], noTag⟩ : Bod).vals none 0) rfl rfl rfl (Rd.ofRow (.here _ _ _)) rfl (fun _ s => s.drop (.here _ _)) ⟨nil0, none, 0, rfl, QAt.nil _ _, Dj.nil _, (un_nil _).symm, rfl⟩
  ·have hr1 : (!x.raw) = true := by rw [hraw]; rfl
   have hb : x.bodK W n o 0 = (⟨1, (W.l.past o).g, 0, x.req, [], noTag⟩ : Bod) := by simp [A15.bodK, hraw, Bod.zero]
   rw [hb]
   generalize x.req = rq at hask ⊢
   refine Fn.enter Tryz.func94 rfl Tryz.ntmps94 rfl (L := [(0, _), (1, _), (2, _)]) ⟨rfl, rfl, rfl, trivial⟩ fun base => ?_
   refine gC ?_
   refine H.box (ls := x.vals) rfl rfl rfl rfl fun xb => ?_
   refine H.Au (ls := (Bod.zero 0).vals none 0) rfl rfl rfl fun ob => ?_
   refine gX ?_
   refine H.rem rfl rfl rfl (by decide) hk6 rfl ?_
   refine gP ?_
   refine H.rem (z := ((x.view.toNat % 6 : Nat) : Int)) rfl rfl rfl (by decide) (zal (b := 6) rfl) rfl ?_
   refine gP ?_
   refine H.rem (z := ((x.k.toNat % 6 : Nat) : Int)) rfl rfl rfl (by decide) (zal (b := 6) rfl) rfl ?_
   repeat (first | (refine H.Bc (t := 45) (out := (bodW 1 ((x.view.toNat % 6 : Nat) : Int) (1 + ((x.k.toNat % 6 : Nat) : Int))).vals none 0) rfl rfl rfl (by kernel_rfl) rfl ?_) | ((first | (apply H.ar; (iterate 4 exact rfl)) | (apply H.Bh; (iterate 2 exact rfl))); (with_reducible apply wr_u64; omega); exact rfl))
   refine H.Au (ls := (Bod.zero 0).vals none 0) rfl rfl rfl fun bb => ?_
   refine H.Ak (ls := (Bod.zero 0).vals none 0) (vs := (bodW 1 ((x.view.toNat % 6 : Nat) : Int) (1 + ((x.k.toNat % 6 : Nat) : Int))).vals none 0) (ls' := (bodW 1 ((x.view.toNat % 6 : Nat) : Int) (1 + ((x.k.toNat % 6 : Nat) : Int))).vals none 0) rfl rfl rfl (zad rfl) rfl rfl (Nat.le_refl 76) (.here _ _ _) ?_
   refine gN ?_
   refine H.Aa (x := row wb _ _) (by repeat constructor) ?_
   refine H.Aa (x := logsH _ _ _) (by repeat constructor) ?_
   refine H.Af rfl rfl rfl (hgr _) ?_
   refine H.Aa (x := row xb _ _) (by repeat constructor) ?_
   refine H.Aa (x := row bb _ _) (by repeat constructor) ?_
   refine gO ?_
   refine H.Ah (ls := x.vals) rfl rfl rfl (Rd.ofRow (.there _ (.here _ _ _))) rfl rfl ?_
   refine H.Af rfl rfl rfl (hask _) ?_
   refine gP ?_
   refine H.Ak (ls := (bodW 1 ((x.view.toNat % 6 : Nat) : Int) 0).vals none 0) (vs := rq.vals) (ls' := (⟨1, ((x.view.toNat % 6 : Nat) : Int), 0, rq, [], noTag⟩ : Bod).vals none 0) rfl rfl rfl (zad rfl) rfl rfl (show 3 + 40 ≤ 76 by decide) (.here _ _ _) ?_
   refine gf ?_
   refine H.Ah (ls := (⟨1, (W.l.past o).g, 0, rq, [], noTag⟩ : Bod).vals none 0) rfl rfl rfl (Rd.ofRow (.here _ _ _)) rfl rfl ?_
   refine H.Ak (ls := (Bod.zero 0).vals none 0) (vs := (⟨1, (W.l.past o).g, 0, rq, [], noTag⟩ : Bod).vals none 0) (ls' := (⟨1, (W.l.past o).g, 0, rq, [], noTag⟩ : Bod).vals none 0) rfl rfl rfl (zad rfl) rfl rfl (Nat.le_refl 76) (by repeat constructor) ?_
   refine ga ?_
   refine H.Ab (x := row bb _ _) (by repeat constructor) ?_
   refine H.Ab (x := row xb _ _) (by repeat constructor) ?_
   refine H.Aa (x := row kb _ _) (by repeat constructor) ?_
   refine H.Aa (x := row wb _ _) (by repeat constructor) ?_
   refine H.Aa (x := logsH _ _ _) (by repeat constructor) ?_
   refine H.Aa (x := row ob _ _) (by repeat constructor) ?_
   exact H.Bb (ls := (⟨1, (W.l.past o).g, 0, rq, [], noTag⟩ : Bod).vals none 0) rfl rfl rfl (Rd.ofRow (.here _ _ _)) rfl (fun _ s => s.drop (.here _ _)) ⟨nil0, none, 0, rfl, QAt.nil _ _, Dj.nil _, (un_nil _).symm, rfl⟩
 ·have hk6 : ((x.kind.toNat : Nat) : Int).tmod 6 = 1 := zal (b := 6) h
  rw [h]
  rcases Bool.eq_false_or_eq_true x.raw with hraw | hraw
  ·have hr1 : (!x.raw) = false := by rw [hraw]; rfl
   have hb : x.bodK W n o 1 = (⟨2, ((x.view.toNat % 6 : Nat) : Int), (1 + ((x.k.toNat % 6 : Nat) : Int)), Req.zero, [], noTag⟩ : Bod) := by simp [A15.bodK, hraw, Bod.zero]
   rw [hb]
   refine Fn.enter Tryz.func94 rfl Tryz.ntmps94 rfl (L := [(0, _), (1, _), (2, _)]) ⟨rfl, rfl, rfl, trivial⟩ fun base => ?_
   refine gC ?_
   refine H.box (ls := x.vals) rfl rfl rfl rfl fun xb => ?_
   refine H.Au (ls := (Bod.zero 0).vals none 0) rfl rfl rfl fun ob => ?_
   refine gX ?_
   refine H.rem rfl rfl rfl (by decide) hk6 rfl ?_
   refine gP ?_
   refine H.rem (z := ((x.view.toNat % 6 : Nat) : Int)) rfl rfl rfl (by decide) (zal (b := 6) rfl) rfl ?_
   refine gP ?_
   refine H.rem (z := ((x.k.toNat % 6 : Nat) : Int)) rfl rfl rfl (by decide) (zal (b := 6) rfl) rfl ?_
   repeat (first | (refine H.Bc (t := 45) (out := (bodW 2 ((x.view.toNat % 6 : Nat) : Int) (1 + ((x.k.toNat % 6 : Nat) : Int))).vals none 0) rfl rfl rfl (by kernel_rfl) rfl ?_) | ((first | (apply H.ar; (iterate 4 exact rfl)) | (apply H.Bh; (iterate 2 exact rfl))); (with_reducible apply wr_u64; omega); exact rfl))
   refine H.Au (ls := (Bod.zero 0).vals none 0) rfl rfl rfl fun bb => ?_
   refine H.Ak (ls := (Bod.zero 0).vals none 0) (vs := (bodW 2 ((x.view.toNat % 6 : Nat) : Int) (1 + ((x.k.toNat % 6 : Nat) : Int))).vals none 0) (ls' := (bodW 2 ((x.view.toNat % 6 : Nat) : Int) (1 + ((x.k.toNat % 6 : Nat) : Int))).vals none 0) rfl rfl rfl (zad rfl) rfl rfl (Nat.le_refl 76) (.here _ _ _) ?_
   refine gN ?_
   refine H.Aa (x := row wb _ _) (by repeat constructor) ?_
   refine H.Aa (x := logsH _ _ _) (by repeat constructor) ?_
   refine H.Af rfl rfl rfl (hgr _) ?_
   refine H.Aa (x := row xb _ _) (by repeat constructor) ?_
   refine H.Aa (x := row bb _ _) (by repeat constructor) ?_
   refine gf ?_
   refine H.Ah (ls := (⟨2, ((x.view.toNat % 6 : Nat) : Int), (1 + ((x.k.toNat % 6 : Nat) : Int)), Req.zero, [], noTag⟩ : Bod).vals none 0) rfl rfl rfl (Rd.ofRow (.here _ _ _)) rfl rfl ?_
   refine H.Ak (ls := (Bod.zero 0).vals none 0) (vs := (⟨2, ((x.view.toNat % 6 : Nat) : Int), (1 + ((x.k.toNat % 6 : Nat) : Int)), Req.zero, [], noTag⟩ : Bod).vals none 0) (ls' := (⟨2, ((x.view.toNat % 6 : Nat) : Int), (1 + ((x.k.toNat % 6 : Nat) : Int)), Req.zero, [], noTag⟩ : Bod).vals none 0) rfl rfl rfl (zad rfl) rfl rfl (Nat.le_refl 76) (by repeat constructor) ?_
   refine ga ?_
   refine H.Ab (x := row bb _ _) (by repeat constructor) ?_
   refine H.Ab (x := row xb _ _) (by repeat constructor) ?_
   refine H.Aa (x := row kb _ _) (by repeat constructor) ?_
   refine H.Aa (x := row wb _ _) (by repeat constructor) ?_
   refine H.Aa (x := logsH _ _ _) (by repeat constructor) ?_
   refine H.Aa (x := row ob _ _) (by repeat constructor) ?_
   exact H.Bb (ls := (⟨2, ((x.view.toNat % 6 : Nat) : Int), (1 + ((x.k.toNat % 6 : Nat) : Int)), Req.zero, [], noTag⟩ : Bod).vals none 0) rfl rfl rfl (Rd.ofRow (.here _ _ _)) rfl (fun _ s => s.drop (.here _ _)) ⟨nil0, none, 0, rfl, QAt.nil _ _, Dj.nil _, (un_nil _).symm, rfl⟩
  ·have hr1 : (!x.raw) = true := by rw [hraw]; rfl
   have hb : x.bodK W n o 1 = (⟨2, (W.l.past o).g, votedZ (W.l.past o) (W.l.past o).g + 1, Req.zero, [], noTag⟩ : Bod) := by simp [A15.bodK, hraw, Bod.zero]
   rw [hb]
   have hvz := votedZ_le hwf (by omega) (W.l.past o).g
   have hvt : ∀ (b : Nat) G, Fn Tryz.prog 117 [.pointer (some ⟨b, 0, none⟩), .int .u64 (W.l.past o).g] f (pstH b (W.l.past o) :: G) (Ret (.tuple #[.int .i64 (votedZ (W.l.past o) (W.l.past o).g), .bool (PM.voted (W.l.past o).all (W.l.past o).g).isSome]) f (pstH b (W.l.past o) :: G)) := fun b G => pst_voted f G b (W.l.past o) (by have := hW.l.il o hol; omega) _
   generalize votedZ (W.l.past o) (W.l.past o).g = vz at hvt hvz ⊢
   refine Fn.enter Tryz.func94 rfl Tryz.ntmps94 rfl (L := [(0, _), (1, _), (2, _)]) ⟨rfl, rfl, rfl, trivial⟩ fun base => ?_
   refine gC ?_
   refine H.box (ls := x.vals) rfl rfl rfl rfl fun xb => ?_
   refine H.Au (ls := (Bod.zero 0).vals none 0) rfl rfl rfl fun ob => ?_
   refine gX ?_
   refine H.rem rfl rfl rfl (by decide) hk6 rfl ?_
   refine gP ?_
   refine H.rem (z := ((x.view.toNat % 6 : Nat) : Int)) rfl rfl rfl (by decide) (zal (b := 6) rfl) rfl ?_
   refine gP ?_
   refine H.rem (z := ((x.k.toNat % 6 : Nat) : Int)) rfl rfl rfl (by decide) (zal (b := 6) rfl) rfl ?_
   repeat (first | (refine H.Bc (t := 45) (out := (bodW 2 ((x.view.toNat % 6 : Nat) : Int) (1 + ((x.k.toNat % 6 : Nat) : Int))).vals none 0) rfl rfl rfl (by kernel_rfl) rfl ?_) | ((first | (apply H.ar; (iterate 4 exact rfl)) | (apply H.Bh; (iterate 2 exact rfl))); (with_reducible apply wr_u64; omega); exact rfl))
   refine H.Au (ls := (Bod.zero 0).vals none 0) rfl rfl rfl fun bb => ?_
   refine H.Ak (ls := (Bod.zero 0).vals none 0) (vs := (bodW 2 ((x.view.toNat % 6 : Nat) : Int) (1 + ((x.k.toNat % 6 : Nat) : Int))).vals none 0) (ls' := (bodW 2 ((x.view.toNat % 6 : Nat) : Int) (1 + ((x.k.toNat % 6 : Nat) : Int))).vals none 0) rfl rfl rfl (zad rfl) rfl rfl (Nat.le_refl 76) (.here _ _ _) ?_
   refine gN ?_
   refine H.Aa (x := row wb _ _) (by repeat constructor) ?_
   refine H.Aa (x := logsH _ _ _) (by repeat constructor) ?_
   refine H.Af rfl rfl rfl (hgr _) ?_
   refine H.Aa (x := row xb _ _) (by repeat constructor) ?_
   refine H.Aa (x := row bb _ _) (by repeat constructor) ?_
   refine gf ?_
   refine H.Aa (x := logsH _ _ _) (by repeat constructor) ?_
   refine H.unpack fun i1 hi1 => ?_
   obtain ⟨V, vp, vc, pp, pc, cp, cc, pb, cs⟩ := i1
   have hiF := hi1.mono hfl
   show H _ _ _ _ _ (row lb 200 (lgC W.l.n W.l.known vp V.length vc pp pc cp cc) :: slc vp V.length vc 195 4 (V.flatMap VV.vals) :: lst (V.map VV.own) :: fam (fun r => pstH (pb r) (W.l.past r)) W.l.n :: slc cp W.l.n cc 232 1 (chRow W.l cs) :: fam (chFam W.l cs) W.l.n :: _) _
   obtain ⟨pbb, poff, hpp0, rdp0⟩ := hiF.past (by show 0 < W.l.n; omega)
   have hpp : pp = some ⟨pbb, poff, none⟩ := hpp0
   have rdp : ∀ {A : List HP} {r : Nat}, r < W.l.n → Rd1 f A pbb (poff + r) (.pointer (some ⟨pb r, 0, none⟩)) := fun {A r} hr => rdp0 (Le.refl f) hr
   clear hpp0 rdp0
   refine H.Aa (x := row lb _ _) (by repeat constructor) ?_
   refine gX ?_
   refine H.Ar (b := pbb) (off := poff) (i := o) rfl (by rw [← hpp]; rfl) rfl (by omega) hol rfl ?_
   refine H.Ae rfl rfl rfl (by rw [Nat.mul_one]; exact rdp hol) rfl ?_
   refine gN ?_
   refine H.Aa (x := fam (fun r => pstH _ _) _) (by repeat constructor) ?_
   refine H.Cf hol ?_
   refine H.Af rfl rfl rfl (hvt _ _) ?_
   refine H.Ck (g := fun r => pstH (pb r) (W.l.past r)) hol ?_
   refine H.Aa (x := fam (chFam W.l cs) _) (by repeat constructor) ?_
   refine H.Aa (x := slc cp _ cc _ _ _) (by repeat constructor) ?_
   refine H.Aa (x := fam (fun r => pstH _ _) _) (by repeat constructor) ?_
   refine H.Aa (x := lst (V.map VV.own)) (by repeat constructor) ?_
   refine H.Aa (x := slc vp _ vc _ _ _) (by repeat constructor) ?_
   refine H.Aa (x := row lb _ _) (by repeat constructor) ?_
   refine H.imp (zai ⟨V, vp, vc, pp, pc, cp, cc, pb, cs⟩ hi1) ?_
   refine H.Aa (x := row xb _ _) (by repeat constructor) ?_
   refine H.Aa (x := row bb _ _) (by repeat constructor) ?_
   refine gf ?_
   refine H.Ah (ls := (⟨2, (W.l.past o).g, vz + 1, Req.zero, [], noTag⟩ : Bod).vals none 0) rfl rfl rfl (Rd.ofRow (.here _ _ _)) rfl rfl ?_
   refine H.Ak (ls := (Bod.zero 0).vals none 0) (vs := (⟨2, (W.l.past o).g, vz + 1, Req.zero, [], noTag⟩ : Bod).vals none 0) (ls' := (⟨2, (W.l.past o).g, vz + 1, Req.zero, [], noTag⟩ : Bod).vals none 0) rfl rfl rfl (zad rfl) rfl rfl (Nat.le_refl 76) (by repeat constructor) ?_
   refine ga ?_
   refine H.Ab (x := row bb _ _) (by repeat constructor) ?_
   refine H.Ab (x := row xb _ _) (by repeat constructor) ?_
   refine H.Aa (x := row kb _ _) (by repeat constructor) ?_
   refine H.Aa (x := row wb _ _) (by repeat constructor) ?_
   refine H.Aa (x := logsH _ _ _) (by repeat constructor) ?_
   refine H.Aa (x := row ob _ _) (by repeat constructor) ?_
   exact H.Bb (ls := (⟨2, (W.l.past o).g, vz + 1, Req.zero, [], noTag⟩ : Bod).vals none 0) rfl rfl rfl (Rd.ofRow (.here _ _ _)) rfl (fun _ s => s.drop (.here _ _)) ⟨nil0, none, 0, rfl, QAt.nil _ _, Dj.nil _, (un_nil _).symm, rfl⟩
 ·have hk6 : ((x.kind.toNat : Nat) : Int).tmod 6 = 2 := zal (b := 6) h
  rw [h]
  rcases Bool.eq_false_or_eq_true x.raw with hraw | hraw
  ·have hr1 : (!x.raw) = false := by rw [hraw]; rfl
   have hb : x.bodK W n o 2 = (⟨3, fix1 (((x.view.toNat % 6 : Nat) : Int)), 0, Req.zero, [], noTag⟩ : Bod) := by simp [A15.bodK, hraw, Bod.zero]
   rw [hb]
   refine Fn.enter Tryz.func94 rfl Tryz.ntmps94 rfl (L := [(0, _), (1, _), (2, _)]) ⟨rfl, rfl, rfl, trivial⟩ fun base => ?_
   refine gC ?_
   refine H.box (ls := x.vals) rfl rfl rfl rfl fun xb => ?_
   refine H.Au (ls := (Bod.zero 0).vals none 0) rfl rfl rfl fun ob => ?_
   refine gX ?_
   refine H.rem rfl rfl rfl (by decide) hk6 rfl ?_
   refine gP ?_
   refine H.rem (z := ((x.view.toNat % 6 : Nat) : Int)) rfl rfl rfl (by decide) (zal (b := 6) rfl) rfl ?_
   refine gP ?_
   refine H.rem (z := ((x.k.toNat % 6 : Nat) : Int)) rfl rfl rfl (by decide) (zal (b := 6) rfl) rfl ?_
   repeat (first | (refine H.Bc (t := 45) (out := (bodW 3 ((x.view.toNat % 6 : Nat) : Int) (1 + ((x.k.toNat % 6 : Nat) : Int))).vals none 0) rfl rfl rfl (by kernel_rfl) rfl ?_) | ((first | (apply H.ar; (iterate 4 exact rfl)) | (apply H.Bh; (iterate 2 exact rfl))); (with_reducible apply wr_u64; omega); exact rfl))
   refine H.Au (ls := (Bod.zero 0).vals none 0) rfl rfl rfl fun bb => ?_
   refine H.Ak (ls := (Bod.zero 0).vals none 0) (vs := (bodW 3 ((x.view.toNat % 6 : Nat) : Int) (1 + ((x.k.toNat % 6 : Nat) : Int))).vals none 0) (ls' := (bodW 3 ((x.view.toNat % 6 : Nat) : Int) (1 + ((x.k.toNat % 6 : Nat) : Int))).vals none 0) rfl rfl rfl (zad rfl) rfl rfl (Nat.le_refl 76) (.here _ _ _) ?_
   refine gN ?_
   refine H.Aa (x := row wb _ _) (by repeat constructor) ?_
   refine H.Aa (x := logsH _ _ _) (by repeat constructor) ?_
   refine H.Af rfl rfl rfl (hgr _) ?_
   refine H.Aa (x := row xb _ _) (by repeat constructor) ?_
   refine H.Aa (x := row bb _ _) (by repeat constructor) ?_
   by_cases hz : ((x.view.toNat % 6 : Nat) : Int) = 0
   ·rw [show fix1 (((x.view.toNat % 6 : Nat) : Int)) = 1 from if_pos hz]
    refine gf ?_
    refine H.Ah (ls := (⟨3, 1, 0, Req.zero, [], noTag⟩ : Bod).vals none 0) rfl rfl rfl (Rd.ofRow (.here _ _ _)) rfl rfl ?_
    refine H.Ak (ls := (Bod.zero 0).vals none 0) (vs := (⟨3, 1, 0, Req.zero, [], noTag⟩ : Bod).vals none 0) (ls' := (⟨3, 1, 0, Req.zero, [], noTag⟩ : Bod).vals none 0) rfl rfl rfl (zad rfl) rfl rfl (Nat.le_refl 76) (by repeat constructor) ?_
    refine ga ?_
    refine H.Ab (x := row bb _ _) (by repeat constructor) ?_
    refine H.Ab (x := row xb _ _) (by repeat constructor) ?_
    refine H.Aa (x := row kb _ _) (by repeat constructor) ?_
    refine H.Aa (x := row wb _ _) (by repeat constructor) ?_
    refine H.Aa (x := logsH _ _ _) (by repeat constructor) ?_
    refine H.Aa (x := row ob _ _) (by repeat constructor) ?_
    exact H.Bb (ls := (⟨3, 1, 0, Req.zero, [], noTag⟩ : Bod).vals none 0) rfl rfl rfl (Rd.ofRow (.here _ _ _)) rfl (fun _ s => s.drop (.here _ _)) ⟨nil0, none, 0, rfl, QAt.nil _ _, Dj.nil _, (un_nil _).symm, rfl⟩
   ·rw [show fix1 (((x.view.toNat % 6 : Nat) : Int)) = ((x.view.toNat % 6 : Nat) : Int) from if_neg hz]
    refine gf ?_
    refine H.Ah (ls := (⟨3, ((x.view.toNat % 6 : Nat) : Int), 0, Req.zero, [], noTag⟩ : Bod).vals none 0) rfl rfl rfl (Rd.ofRow (.here _ _ _)) rfl rfl ?_
    refine H.Ak (ls := (Bod.zero 0).vals none 0) (vs := (⟨3, ((x.view.toNat % 6 : Nat) : Int), 0, Req.zero, [], noTag⟩ : Bod).vals none 0) (ls' := (⟨3, ((x.view.toNat % 6 : Nat) : Int), 0, Req.zero, [], noTag⟩ : Bod).vals none 0) rfl rfl rfl (zad rfl) rfl rfl (Nat.le_refl 76) (by repeat constructor) ?_
    refine ga ?_
    refine H.Ab (x := row bb _ _) (by repeat constructor) ?_
    refine H.Ab (x := row xb _ _) (by repeat constructor) ?_
    refine H.Aa (x := row kb _ _) (by repeat constructor) ?_
    refine H.Aa (x := row wb _ _) (by repeat constructor) ?_
    refine H.Aa (x := logsH _ _ _) (by repeat constructor) ?_
    refine H.Aa (x := row ob _ _) (by repeat constructor) ?_
    exact H.Bb (ls := (⟨3, ((x.view.toNat % 6 : Nat) : Int), 0, Req.zero, [], noTag⟩ : Bod).vals none 0) rfl rfl rfl (Rd.ofRow (.here _ _ _)) rfl (fun _ s => s.drop (.here _ _)) ⟨nil0, none, 0, rfl, QAt.nil _ _, Dj.nil _, (un_nil _).symm, rfl⟩
  ·have hr1 : (!x.raw) = true := by rw [hraw]; rfl
   have hb : x.bodK W n o 2 = (⟨3, fix1 ((W.l.past o).g + 1 + ((x.view.toNat % 2 : Nat) : Int)), 0, Req.zero, [], noTag⟩ : Bod) := by simp [A15.bodK, hraw, Bod.zero]
   rw [hb]
   rw [show fix1 ((W.l.past o).g + 1 + ((x.view.toNat % 2 : Nat) : Int)) = (W.l.past o).g + 1 + ((x.view.toNat % 2 : Nat) : Int) from if_neg (by omega)]
   refine Fn.enter Tryz.func94 rfl Tryz.ntmps94 rfl (L := [(0, _), (1, _), (2, _)]) ⟨rfl, rfl, rfl, trivial⟩ fun base => ?_
   refine gC ?_
   refine H.box (ls := x.vals) rfl rfl rfl rfl fun xb => ?_
   refine H.Au (ls := (Bod.zero 0).vals none 0) rfl rfl rfl fun ob => ?_
   refine gX ?_
   refine H.rem rfl rfl rfl (by decide) hk6 rfl ?_
   refine gP ?_
   refine H.rem (z := ((x.view.toNat % 6 : Nat) : Int)) rfl rfl rfl (by decide) (zal (b := 6) rfl) rfl ?_
   refine gP ?_
   refine H.rem (z := ((x.k.toNat % 6 : Nat) : Int)) rfl rfl rfl (by decide) (zal (b := 6) rfl) rfl ?_
   repeat (first | (refine H.Bc (t := 45) (out := (bodW 3 ((x.view.toNat % 6 : Nat) : Int) (1 + ((x.k.toNat % 6 : Nat) : Int))).vals none 0) rfl rfl rfl (by kernel_rfl) rfl ?_) | ((first | (apply H.ar; (iterate 4 exact rfl)) | (apply H.Bh; (iterate 2 exact rfl))); (with_reducible apply wr_u64; omega); exact rfl))
   refine H.Au (ls := (Bod.zero 0).vals none 0) rfl rfl rfl fun bb => ?_
   refine H.Ak (ls := (Bod.zero 0).vals none 0) (vs := (bodW 3 ((x.view.toNat % 6 : Nat) : Int) (1 + ((x.k.toNat % 6 : Nat) : Int))).vals none 0) (ls' := (bodW 3 ((x.view.toNat % 6 : Nat) : Int) (1 + ((x.k.toNat % 6 : Nat) : Int))).vals none 0) rfl rfl rfl (zad rfl) rfl rfl (Nat.le_refl 76) (.here _ _ _) ?_
   refine gN ?_
   refine H.Aa (x := row wb _ _) (by repeat constructor) ?_
   refine H.Aa (x := logsH _ _ _) (by repeat constructor) ?_
   refine H.Af rfl rfl rfl (hgr _) ?_
   refine H.Aa (x := row xb _ _) (by repeat constructor) ?_
   refine H.Aa (x := row bb _ _) (by repeat constructor) ?_
   refine gf ?_
   refine H.rem (z := ((x.view.toNat % 2 : Nat) : Int)) rfl rfl rfl (by decide) (zal (b := 2) rfl) rfl ?_
   refine gU ?_
   refine H.Ah (ls := (⟨3, (W.l.past o).g + 1 + ((x.view.toNat % 2 : Nat) : Int), 0, Req.zero, [], noTag⟩ : Bod).vals none 0) rfl rfl rfl (Rd.ofRow (.here _ _ _)) rfl rfl ?_
   refine H.Ak (ls := (Bod.zero 0).vals none 0) (vs := (⟨3, (W.l.past o).g + 1 + ((x.view.toNat % 2 : Nat) : Int), 0, Req.zero, [], noTag⟩ : Bod).vals none 0) (ls' := (⟨3, (W.l.past o).g + 1 + ((x.view.toNat % 2 : Nat) : Int), 0, Req.zero, [], noTag⟩ : Bod).vals none 0) rfl rfl rfl (zad rfl) rfl rfl (Nat.le_refl 76) (by repeat constructor) ?_
   refine ga ?_
   refine H.Ab (x := row bb _ _) (by repeat constructor) ?_
   refine H.Ab (x := row xb _ _) (by repeat constructor) ?_
   refine H.Aa (x := row kb _ _) (by repeat constructor) ?_
   refine H.Aa (x := row wb _ _) (by repeat constructor) ?_
   refine H.Aa (x := logsH _ _ _) (by repeat constructor) ?_
   refine H.Aa (x := row ob _ _) (by repeat constructor) ?_
   exact H.Bb (ls := (⟨3, (W.l.past o).g + 1 + ((x.view.toNat % 2 : Nat) : Int), 0, Req.zero, [], noTag⟩ : Bod).vals none 0) rfl rfl rfl (Rd.ofRow (.here _ _ _)) rfl (fun _ s => s.drop (.here _ _)) ⟨nil0, none, 0, rfl, QAt.nil _ _, Dj.nil _, (un_nil _).symm, rfl⟩
 ·have hk6 : ((x.kind.toNat : Nat) : Int).tmod 6 = 3 := zal (b := 6) h
  rw [h]
  have hq15 := fun G => q15_fn f G hfl (wb := wb) (kb := kb) (lb := lb) (l := W.l) hW.l hT (ap := ap) (m := m) (ac := ac) hnn ho (kv := W.w.kv) hx hq20 (W.l.past o).g
  rcases Bool.eq_false_or_eq_true x.raw with hraw | hraw
  ·have hr1 : (!x.raw) = false := by rw [hraw]; rfl
   have hb : x.bodK W n o 3 = (⟨4, fix1 (((x.view.toNat % 6 : Nat) : Int)), 0, Req.zero, x.qs n W.l.ch (W.w.kv o) (W.l.past o).g, noTag⟩ : Bod) := by simp [A15.bodK, hraw, Bod.zero]
   rw [hb]
   generalize x.qs n W.l.ch (W.w.kv o) (W.l.past o).g = Q at hq15 ⊢
   refine Fn.enter Tryz.func94 rfl Tryz.ntmps94 rfl (L := [(0, _), (1, _), (2, _)]) ⟨rfl, rfl, rfl, trivial⟩ fun base => ?_
   refine gC ?_
   refine H.box (ls := x.vals) rfl rfl rfl rfl fun xb => ?_
   refine H.Au (ls := (Bod.zero 0).vals none 0) rfl rfl rfl fun ob => ?_
   refine gX ?_
   refine H.rem rfl rfl rfl (by decide) hk6 rfl ?_
   refine gP ?_
   refine H.rem (z := ((x.view.toNat % 6 : Nat) : Int)) rfl rfl rfl (by decide) (zal (b := 6) rfl) rfl ?_
   refine gP ?_
   refine H.rem (z := ((x.k.toNat % 6 : Nat) : Int)) rfl rfl rfl (by decide) (zal (b := 6) rfl) rfl ?_
   repeat (first | (refine H.Bc (t := 45) (out := (bodW 4 ((x.view.toNat % 6 : Nat) : Int) (1 + ((x.k.toNat % 6 : Nat) : Int))).vals none 0) rfl rfl rfl (by kernel_rfl) rfl ?_) | ((first | (apply H.ar; (iterate 4 exact rfl)) | (apply H.Bh; (iterate 2 exact rfl))); (with_reducible apply wr_u64; omega); exact rfl))
   refine H.Au (ls := (Bod.zero 0).vals none 0) rfl rfl rfl fun bb => ?_
   refine H.Ak (ls := (Bod.zero 0).vals none 0) (vs := (bodW 4 ((x.view.toNat % 6 : Nat) : Int) (1 + ((x.k.toNat % 6 : Nat) : Int))).vals none 0) (ls' := (bodW 4 ((x.view.toNat % 6 : Nat) : Int) (1 + ((x.k.toNat % 6 : Nat) : Int))).vals none 0) rfl rfl rfl (zad rfl) rfl rfl (Nat.le_refl 76) (.here _ _ _) ?_
   refine gN ?_
   refine H.Aa (x := row wb _ _) (by repeat constructor) ?_
   refine H.Aa (x := logsH _ _ _) (by repeat constructor) ?_
   refine H.Af rfl rfl rfl (hgr _) ?_
   refine H.Aa (x := row xb _ _) (by repeat constructor) ?_
   refine H.Aa (x := row bb _ _) (by repeat constructor) ?_
   refine gO ?_
   refine H.Ah (ls := x.vals) rfl rfl rfl (Rd.ofRow (.there _ (.here _ _ _))) rfl rfl ?_
   refine gN ?_
   refine H.Aa (x := row kb _ _) (by repeat constructor) ?_
   refine H.Aa (x := row wb _ _) (by repeat constructor) ?_
   refine H.Aa (x := logsH _ _ _) (by repeat constructor) ?_
   refine H.callE rfl rfl rfl (hq15 _) fun qi => ?_
   obtain ⟨qp, qc⟩ := qi
   refine H.freeze (.here _ _) fun g hg hd => ?_
   have hqa : QAt (un f g) qp Q := ListAt.mono (vals := pairV) (Le.right hd) (zbd (vals := pairV) (fun _ => rfl) hg)
   refine H.Aa (x := row xb _ _) (by repeat constructor) ?_
   refine H.Aa (x := row bb _ _) (by repeat constructor) ?_
   by_cases hz : ((x.view.toNat % 6 : Nat) : Int) = 0
   ·rw [show fix1 (((x.view.toNat % 6 : Nat) : Int)) = 1 from if_pos hz]
    refine gf ?_
    refine H.Ah (ls := (⟨4, 1, 0, Req.zero, Q, noTag⟩ : Bod).vals qp qc) rfl rfl rfl (Rd.ofRow (.here _ _ _)) rfl rfl ?_
    refine H.Ak (ls := (Bod.zero 0).vals none 0) (vs := (⟨4, 1, 0, Req.zero, Q, noTag⟩ : Bod).vals qp qc) (ls' := (⟨4, 1, 0, Req.zero, Q, noTag⟩ : Bod).vals qp qc) rfl rfl rfl (zad rfl) rfl rfl (Nat.le_refl 76) (by repeat constructor) ?_
    refine ga ?_
    refine H.Ab (x := row bb _ _) (by repeat constructor) ?_
    refine H.Ab (x := row xb _ _) (by repeat constructor) ?_
    refine H.Aa (x := row kb _ _) (by repeat constructor) ?_
    refine H.Aa (x := row wb _ _) (by repeat constructor) ?_
    refine H.Aa (x := logsH _ _ _) (by repeat constructor) ?_
    refine H.Aa (x := row ob _ _) (by repeat constructor) ?_
    exact H.Bb (ls := (⟨4, 1, 0, Req.zero, Q, noTag⟩ : Bod).vals qp qc) rfl rfl rfl (Rd.ofRow (.here _ _ _)) rfl (fun _ s => s.drop (.here _ _)) ⟨g, qp, qc, rfl, hqa, hd, rfl, rfl⟩
   ·rw [show fix1 (((x.view.toNat % 6 : Nat) : Int)) = ((x.view.toNat % 6 : Nat) : Int) from if_neg hz]
    refine gf ?_
    refine H.Ah (ls := (⟨4, ((x.view.toNat % 6 : Nat) : Int), 0, Req.zero, Q, noTag⟩ : Bod).vals qp qc) rfl rfl rfl (Rd.ofRow (.here _ _ _)) rfl rfl ?_
    refine H.Ak (ls := (Bod.zero 0).vals none 0) (vs := (⟨4, ((x.view.toNat % 6 : Nat) : Int), 0, Req.zero, Q, noTag⟩ : Bod).vals qp qc) (ls' := (⟨4, ((x.view.toNat % 6 : Nat) : Int), 0, Req.zero, Q, noTag⟩ : Bod).vals qp qc) rfl rfl rfl (zad rfl) rfl rfl (Nat.le_refl 76) (by repeat constructor) ?_
    refine ga ?_
    refine H.Ab (x := row bb _ _) (by repeat constructor) ?_
    refine H.Ab (x := row xb _ _) (by repeat constructor) ?_
    refine H.Aa (x := row kb _ _) (by repeat constructor) ?_
    refine H.Aa (x := row wb _ _) (by repeat constructor) ?_
    refine H.Aa (x := logsH _ _ _) (by repeat constructor) ?_
    refine H.Aa (x := row ob _ _) (by repeat constructor) ?_
    exact H.Bb (ls := (⟨4, ((x.view.toNat % 6 : Nat) : Int), 0, Req.zero, Q, noTag⟩ : Bod).vals qp qc) rfl rfl rfl (Rd.ofRow (.here _ _ _)) rfl (fun _ s => s.drop (.here _ _)) ⟨g, qp, qc, rfl, hqa, hd, rfl, rfl⟩
  ·have hr1 : (!x.raw) = true := by rw [hraw]; rfl
   have hb : x.bodK W n o 3 = (⟨4, fix1 ((W.l.past o).g), 0, Req.zero, x.qs n W.l.ch (W.w.kv o) (W.l.past o).g, noTag⟩ : Bod) := by simp [A15.bodK, hraw, Bod.zero]
   rw [hb]
   generalize x.qs n W.l.ch (W.w.kv o) (W.l.past o).g = Q at hq15 ⊢
   refine Fn.enter Tryz.func94 rfl Tryz.ntmps94 rfl (L := [(0, _), (1, _), (2, _)]) ⟨rfl, rfl, rfl, trivial⟩ fun base => ?_
   refine gC ?_
   refine H.box (ls := x.vals) rfl rfl rfl rfl fun xb => ?_
   refine H.Au (ls := (Bod.zero 0).vals none 0) rfl rfl rfl fun ob => ?_
   refine gX ?_
   refine H.rem rfl rfl rfl (by decide) hk6 rfl ?_
   refine gP ?_
   refine H.rem (z := ((x.view.toNat % 6 : Nat) : Int)) rfl rfl rfl (by decide) (zal (b := 6) rfl) rfl ?_
   refine gP ?_
   refine H.rem (z := ((x.k.toNat % 6 : Nat) : Int)) rfl rfl rfl (by decide) (zal (b := 6) rfl) rfl ?_
   repeat (first | (refine H.Bc (t := 45) (out := (bodW 4 ((x.view.toNat % 6 : Nat) : Int) (1 + ((x.k.toNat % 6 : Nat) : Int))).vals none 0) rfl rfl rfl (by kernel_rfl) rfl ?_) | ((first | (apply H.ar; (iterate 4 exact rfl)) | (apply H.Bh; (iterate 2 exact rfl))); (with_reducible apply wr_u64; omega); exact rfl))
   refine H.Au (ls := (Bod.zero 0).vals none 0) rfl rfl rfl fun bb => ?_
   refine H.Ak (ls := (Bod.zero 0).vals none 0) (vs := (bodW 4 ((x.view.toNat % 6 : Nat) : Int) (1 + ((x.k.toNat % 6 : Nat) : Int))).vals none 0) (ls' := (bodW 4 ((x.view.toNat % 6 : Nat) : Int) (1 + ((x.k.toNat % 6 : Nat) : Int))).vals none 0) rfl rfl rfl (zad rfl) rfl rfl (Nat.le_refl 76) (.here _ _ _) ?_
   refine gN ?_
   refine H.Aa (x := row wb _ _) (by repeat constructor) ?_
   refine H.Aa (x := logsH _ _ _) (by repeat constructor) ?_
   refine H.Af rfl rfl rfl (hgr _) ?_
   refine H.Aa (x := row xb _ _) (by repeat constructor) ?_
   refine H.Aa (x := row bb _ _) (by repeat constructor) ?_
   refine gO ?_
   refine H.Ah (ls := x.vals) rfl rfl rfl (Rd.ofRow (.there _ (.here _ _ _))) rfl rfl ?_
   refine gN ?_
   refine H.Aa (x := row kb _ _) (by repeat constructor) ?_
   refine H.Aa (x := row wb _ _) (by repeat constructor) ?_
   refine H.Aa (x := logsH _ _ _) (by repeat constructor) ?_
   refine H.callE rfl rfl rfl (hq15 _) fun qi => ?_
   obtain ⟨qp, qc⟩ := qi
   refine H.freeze (.here _ _) fun g hg hd => ?_
   have hqa : QAt (un f g) qp Q := ListAt.mono (vals := pairV) (Le.right hd) (zbd (vals := pairV) (fun _ => rfl) hg)
   refine H.Aa (x := row xb _ _) (by repeat constructor) ?_
   refine H.Aa (x := row bb _ _) (by repeat constructor) ?_
   by_cases hz : (W.l.past o).g = 0
   ·rw [show fix1 ((W.l.past o).g) = 1 from if_pos hz]
    refine gf ?_
    refine H.Ah (ls := (⟨4, 1, 0, Req.zero, Q, noTag⟩ : Bod).vals qp qc) rfl rfl rfl (Rd.ofRow (.here _ _ _)) rfl rfl ?_
    refine H.Ak (ls := (Bod.zero 0).vals none 0) (vs := (⟨4, 1, 0, Req.zero, Q, noTag⟩ : Bod).vals qp qc) (ls' := (⟨4, 1, 0, Req.zero, Q, noTag⟩ : Bod).vals qp qc) rfl rfl rfl (zad rfl) rfl rfl (Nat.le_refl 76) (by repeat constructor) ?_
    refine ga ?_
    refine H.Ab (x := row bb _ _) (by repeat constructor) ?_
    refine H.Ab (x := row xb _ _) (by repeat constructor) ?_
    refine H.Aa (x := row kb _ _) (by repeat constructor) ?_
    refine H.Aa (x := row wb _ _) (by repeat constructor) ?_
    refine H.Aa (x := logsH _ _ _) (by repeat constructor) ?_
    refine H.Aa (x := row ob _ _) (by repeat constructor) ?_
    exact H.Bb (ls := (⟨4, 1, 0, Req.zero, Q, noTag⟩ : Bod).vals qp qc) rfl rfl rfl (Rd.ofRow (.here _ _ _)) rfl (fun _ s => s.drop (.here _ _)) ⟨g, qp, qc, rfl, hqa, hd, rfl, rfl⟩
   ·rw [show fix1 ((W.l.past o).g) = (W.l.past o).g from if_neg hz]
    refine gf ?_
    refine H.Ah (ls := (⟨4, (W.l.past o).g, 0, Req.zero, Q, noTag⟩ : Bod).vals qp qc) rfl rfl rfl (Rd.ofRow (.here _ _ _)) rfl rfl ?_
    refine H.Ak (ls := (Bod.zero 0).vals none 0) (vs := (⟨4, (W.l.past o).g, 0, Req.zero, Q, noTag⟩ : Bod).vals qp qc) (ls' := (⟨4, (W.l.past o).g, 0, Req.zero, Q, noTag⟩ : Bod).vals qp qc) rfl rfl rfl (zad rfl) rfl rfl (Nat.le_refl 76) (by repeat constructor) ?_
    refine ga ?_
    refine H.Ab (x := row bb _ _) (by repeat constructor) ?_
    refine H.Ab (x := row xb _ _) (by repeat constructor) ?_
    refine H.Aa (x := row kb _ _) (by repeat constructor) ?_
    refine H.Aa (x := row wb _ _) (by repeat constructor) ?_
    refine H.Aa (x := logsH _ _ _) (by repeat constructor) ?_
    refine H.Aa (x := row ob _ _) (by repeat constructor) ?_
    exact H.Bb (ls := (⟨4, (W.l.past o).g, 0, Req.zero, Q, noTag⟩ : Bod).vals qp qc) rfl rfl rfl (Rd.ofRow (.here _ _ _)) rfl (fun _ s => s.drop (.here _ _)) ⟨g, qp, qc, rfl, hqa, hd, rfl, rfl⟩
 ·have hk6 : ((x.kind.toNat : Nat) : Int).tmod 6 = 4 := zal (b := 6) h
  rw [h]
  rcases Bool.eq_false_or_eq_true x.raw with hraw | hraw
  ·have hr1 : (!x.raw) = false := by rw [hraw]; rfl
   have hb : x.bodK W n o 4 = (⟨5, fix1 (((x.view.toNat % 6 : Nat) : Int)), 0, Req.zero, [], noTag⟩ : Bod) := by simp [A15.bodK, hraw, Bod.zero]
   rw [hb]
   refine Fn.enter Tryz.func94 rfl Tryz.ntmps94 rfl (L := [(0, _), (1, _), (2, _)]) ⟨rfl, rfl, rfl, trivial⟩ fun base => ?_
   refine gC ?_
   refine H.box (ls := x.vals) rfl rfl rfl rfl fun xb => ?_
   refine H.Au (ls := (Bod.zero 0).vals none 0) rfl rfl rfl fun ob => ?_
   refine gX ?_
   refine H.rem rfl rfl rfl (by decide) hk6 rfl ?_
   refine gP ?_
   refine H.rem (z := ((x.view.toNat % 6 : Nat) : Int)) rfl rfl rfl (by decide) (zal (b := 6) rfl) rfl ?_
   refine gP ?_
   refine H.rem (z := ((x.k.toNat % 6 : Nat) : Int)) rfl rfl rfl (by decide) (zal (b := 6) rfl) rfl ?_
   repeat (first | (refine H.Bc (t := 45) (out := (bodW 5 ((x.view.toNat % 6 : Nat) : Int) (1 + ((x.k.toNat % 6 : Nat) : Int))).vals none 0) rfl rfl rfl (by kernel_rfl) rfl ?_) | ((first | (apply H.ar; (iterate 4 exact rfl)) | (apply H.Bh; (iterate 2 exact rfl))); (with_reducible apply wr_u64; omega); exact rfl))
   refine H.Au (ls := (Bod.zero 0).vals none 0) rfl rfl rfl fun bb => ?_
   refine H.Ak (ls := (Bod.zero 0).vals none 0) (vs := (bodW 5 ((x.view.toNat % 6 : Nat) : Int) (1 + ((x.k.toNat % 6 : Nat) : Int))).vals none 0) (ls' := (bodW 5 ((x.view.toNat % 6 : Nat) : Int) (1 + ((x.k.toNat % 6 : Nat) : Int))).vals none 0) rfl rfl rfl (zad rfl) rfl rfl (Nat.le_refl 76) (.here _ _ _) ?_
   refine gN ?_
   refine H.Aa (x := row wb _ _) (by repeat constructor) ?_
   refine H.Aa (x := logsH _ _ _) (by repeat constructor) ?_
   refine H.Af rfl rfl rfl (hgr _) ?_
   refine H.Aa (x := row xb _ _) (by repeat constructor) ?_
   refine H.Aa (x := row bb _ _) (by repeat constructor) ?_
   by_cases hz : ((x.view.toNat % 6 : Nat) : Int) = 0
   ·rw [show fix1 (((x.view.toNat % 6 : Nat) : Int)) = 1 from if_pos hz]
    refine gf ?_
    refine H.Ah (ls := (⟨5, 1, 0, Req.zero, [], noTag⟩ : Bod).vals none 0) rfl rfl rfl (Rd.ofRow (.here _ _ _)) rfl rfl ?_
    refine H.Ak (ls := (Bod.zero 0).vals none 0) (vs := (⟨5, 1, 0, Req.zero, [], noTag⟩ : Bod).vals none 0) (ls' := (⟨5, 1, 0, Req.zero, [], noTag⟩ : Bod).vals none 0) rfl rfl rfl (zad rfl) rfl rfl (Nat.le_refl 76) (by repeat constructor) ?_
    refine ga ?_
    refine H.Ab (x := row bb _ _) (by repeat constructor) ?_
    refine H.Ab (x := row xb _ _) (by repeat constructor) ?_
    refine H.Aa (x := row kb _ _) (by repeat constructor) ?_
    refine H.Aa (x := row wb _ _) (by repeat constructor) ?_
    refine H.Aa (x := logsH _ _ _) (by repeat constructor) ?_
    refine H.Aa (x := row ob _ _) (by repeat constructor) ?_
    exact H.Bb (ls := (⟨5, 1, 0, Req.zero, [], noTag⟩ : Bod).vals none 0) rfl rfl rfl (Rd.ofRow (.here _ _ _)) rfl (fun _ s => s.drop (.here _ _)) ⟨nil0, none, 0, rfl, QAt.nil _ _, Dj.nil _, (un_nil _).symm, rfl⟩
   ·rw [show fix1 (((x.view.toNat % 6 : Nat) : Int)) = ((x.view.toNat % 6 : Nat) : Int) from if_neg hz]
    refine gf ?_
    refine H.Ah (ls := (⟨5, ((x.view.toNat % 6 : Nat) : Int), 0, Req.zero, [], noTag⟩ : Bod).vals none 0) rfl rfl rfl (Rd.ofRow (.here _ _ _)) rfl rfl ?_
    refine H.Ak (ls := (Bod.zero 0).vals none 0) (vs := (⟨5, ((x.view.toNat % 6 : Nat) : Int), 0, Req.zero, [], noTag⟩ : Bod).vals none 0) (ls' := (⟨5, ((x.view.toNat % 6 : Nat) : Int), 0, Req.zero, [], noTag⟩ : Bod).vals none 0) rfl rfl rfl (zad rfl) rfl rfl (Nat.le_refl 76) (by repeat constructor) ?_
    refine ga ?_
    refine H.Ab (x := row bb _ _) (by repeat constructor) ?_
    refine H.Ab (x := row xb _ _) (by repeat constructor) ?_
    refine H.Aa (x := row kb _ _) (by repeat constructor) ?_
    refine H.Aa (x := row wb _ _) (by repeat constructor) ?_
    refine H.Aa (x := logsH _ _ _) (by repeat constructor) ?_
    refine H.Aa (x := row ob _ _) (by repeat constructor) ?_
    exact H.Bb (ls := (⟨5, ((x.view.toNat % 6 : Nat) : Int), 0, Req.zero, [], noTag⟩ : Bod).vals none 0) rfl rfl rfl (Rd.ofRow (.here _ _ _)) rfl (fun _ s => s.drop (.here _ _)) ⟨nil0, none, 0, rfl, QAt.nil _ _, Dj.nil _, (un_nil _).symm, rfl⟩
  ·have hr1 : (!x.raw) = true := by rw [hraw]; rfl
   have hb : x.bodK W n o 4 = (⟨5, fix1 (lastV W.l.vs), 0, Req.zero, [], noTag⟩ : Bod) := by simp [A15.bodK, hraw, Bod.zero]
   rw [hb]
   refine Fn.enter Tryz.func94 rfl Tryz.ntmps94 rfl (L := [(0, _), (1, _), (2, _)]) ⟨rfl, rfl, rfl, trivial⟩ fun base => ?_
   refine gC ?_
   refine H.box (ls := x.vals) rfl rfl rfl rfl fun xb => ?_
   refine H.Au (ls := (Bod.zero 0).vals none 0) rfl rfl rfl fun ob => ?_
   refine gX ?_
   refine H.rem rfl rfl rfl (by decide) hk6 rfl ?_
   refine gP ?_
   refine H.rem (z := ((x.view.toNat % 6 : Nat) : Int)) rfl rfl rfl (by decide) (zal (b := 6) rfl) rfl ?_
   refine gP ?_
   refine H.rem (z := ((x.k.toNat % 6 : Nat) : Int)) rfl rfl rfl (by decide) (zal (b := 6) rfl) rfl ?_
   repeat (first | (refine H.Bc (t := 45) (out := (bodW 5 ((x.view.toNat % 6 : Nat) : Int) (1 + ((x.k.toNat % 6 : Nat) : Int))).vals none 0) rfl rfl rfl (by kernel_rfl) rfl ?_) | ((first | (apply H.ar; (iterate 4 exact rfl)) | (apply H.Bh; (iterate 2 exact rfl))); (with_reducible apply wr_u64; omega); exact rfl))
   refine H.Au (ls := (Bod.zero 0).vals none 0) rfl rfl rfl fun bb => ?_
   refine H.Ak (ls := (Bod.zero 0).vals none 0) (vs := (bodW 5 ((x.view.toNat % 6 : Nat) : Int) (1 + ((x.k.toNat % 6 : Nat) : Int))).vals none 0) (ls' := (bodW 5 ((x.view.toNat % 6 : Nat) : Int) (1 + ((x.k.toNat % 6 : Nat) : Int))).vals none 0) rfl rfl rfl (zad rfl) rfl rfl (Nat.le_refl 76) (.here _ _ _) ?_
   refine gN ?_
   refine H.Aa (x := row wb _ _) (by repeat constructor) ?_
   refine H.Aa (x := logsH _ _ _) (by repeat constructor) ?_
   refine H.Af rfl rfl rfl (hgr _) ?_
   refine H.Aa (x := row xb _ _) (by repeat constructor) ?_
   refine H.Aa (x := row bb _ _) (by repeat constructor) ?_
   refine H.Aa (x := logsH _ _ _) (by repeat constructor) ?_
   refine H.unpack fun i1 hi1 => ?_
   obtain ⟨V, vp, vc, pp, pc, cp, cc, pb, cs⟩ := i1
   have hiF := hi1.mono hfl
   show H _ _ _ _ _ (row lb 200 (lgC W.l.n W.l.known vp V.length vc pp pc cp cc) :: slc vp V.length vc 195 4 (V.flatMap VV.vals) :: lst (V.map VV.own) :: fam (fun r => pstH (pb r) (W.l.past r)) W.l.n :: slc cp W.l.n cc 232 1 (chRow W.l cs) :: fam (chFam W.l cs) W.l.n :: _) _
   have hvs : V.map VV.w = W.l.vs := hi1.vs
   have hVl : V.length = W.l.vs.length := hi1.len
   have hvl := hW.l.vl
   have hV0 : 0 < V.length := by
    obtain ⟨w0, hw0, _⟩ := hW.l.zero
    rw [hVl]
    exact List.length_pos_of_mem hw0
   obtain ⟨X, hX⟩ : ∃ X, V[V.length - 1]? = some X := ⟨_, List.getElem?_eq_getElem (by omega)⟩
   have hXv : lastV W.l.vs = X.w.v := by
    unfold lastV
    rw [← hVl, ← hvs, List.getElem?_map, hX]
    rfl
   rw [hXv]
   refine H.Bq (p := vp) (n0 := V.length) (c := vc) (T := 195) (sz := 4) (xs := V.flatMap VV.vals) (by repeat constructor) (by omega) fun vb hvb => ?_
   refine H.Aa (x := row xb _ _) (by repeat constructor) ?_
   refine H.Aa (x := row bb _ _) (by repeat constructor) ?_
   refine gf ?_
   refine H.Aa (x := slc vp _ vc _ _ _) (by repeat constructor) ?_
   refine H.Aa (x := row lb _ _) (by repeat constructor) ?_
   refine H.Aa (x := row wb _ _) (by repeat constructor) ?_
   refine H.Bu [0, 1, 2, 3, 4, 5, 6, 7, 8, 9, 10, 11, 12, 13, 14, 15, 16, 17, 18] (by kernel_rfl) (by decide +kernel) (by repeat (first | exact zab | refine zaa ?_ | refine zac ?_ | refine zae ?_)) (S := [_, _, _]) rfl ?_
   refine HB.Ag [(0, false), (1, false), (2, false), (3, false), (4, false), (5, false), (6, false), (7, false), (8, false), (9, false), (10, false), (11, false), (12, false), (13, false), (14, false), (15, false), (16, false), (17, false), (18, false)] 2 (by kernel_rfl) ?_
   refine gT ?_
   refine HQ.Ar (b := vb) (off := 0) (i := V.length - 1) rfl (by rw [← hvb]; rfl) rfl (show ((V.length : Int) - 1) = ((V.length - 1 : Nat) : Int) by omega) (show V.length - 1 < V.length by omega) rfl ?_
   refine gE ?_
   refine HQ.Ae rfl rfl rfl (Rd1.of (i := 0) (by rw [Nat.zero_add]; exact Rd.slcElem (n := V.length) (c := vc) (T := 195) (xs := V) VV.len (by decide) (by rw [← hvb]; exact .there _ (.there _ (.here _ _ _))) hX) rfl) rfl ?_
   refine HQ.Ad rfl ?_
   refine HB.next [] (by kernel_rfl) (S' := []) rfl ?_
   refine HB.Ag [(19, false)] 1 (by kernel_rfl) ?_
   refine gE ?_
   refine HQ.Ad rfl ?_
   refine HB.ev1 (i := 20) (by kernel_rfl) rfl ?_
   refine H.Aa (x := row bb _ _) (by repeat constructor) ?_
   refine H.Bi (ls := (bodW 5 ((x.view.toNat % 6 : Nat) : Int) 0).vals none 0) (ls' := (bodW 5 X.w.v 0).vals none 0) rfl rfl rfl rfl (.here _ _ _) (.there _ (.here _ _ _)) ?_
   refine gC ?_
   refine H.on0 rfl ?_
   refine HB.Al (by kernel_rfl) ?_
   refine H.Aa (x := fam (chFam W.l cs) _) (by repeat constructor) ?_
   refine H.Aa (x := slc cp _ cc _ _ _) (by repeat constructor) ?_
   refine H.Aa (x := fam (fun r => pstH _ _) _) (by repeat constructor) ?_
   refine H.Aa (x := lst (V.map VV.own)) (by repeat constructor) ?_
   refine H.Aa (x := slc vp _ vc _ _ _) (by repeat constructor) ?_
   refine H.Aa (x := row lb _ _) (by repeat constructor) ?_
   refine H.imp (zai ⟨V, vp, vc, pp, pc, cp, cc, pb, cs⟩ hi1) ?_
   refine H.Aa (x := row xb _ _) (by repeat constructor) ?_
   refine H.Aa (x := row bb _ _) (by repeat constructor) ?_
   by_cases hz : X.w.v = 0
   ·rw [show fix1 (X.w.v) = 1 from if_pos hz]
    refine gf ?_
    refine H.Ah (ls := (⟨5, 1, 0, Req.zero, [], noTag⟩ : Bod).vals none 0) rfl rfl rfl (Rd.ofRow (.here _ _ _)) rfl rfl ?_
    refine H.Ak (ls := (Bod.zero 0).vals none 0) (vs := (⟨5, 1, 0, Req.zero, [], noTag⟩ : Bod).vals none 0) (ls' := (⟨5, 1, 0, Req.zero, [], noTag⟩ : Bod).vals none 0) rfl rfl rfl (zad rfl) rfl rfl (Nat.le_refl 76) (by repeat constructor) ?_
    refine ga ?_
    refine H.Ab (x := row bb _ _) (by repeat constructor) ?_
    refine H.Ab (x := row xb _ _) (by repeat constructor) ?_
    refine H.Aa (x := row kb _ _) (by repeat constructor) ?_
    refine H.Aa (x := row wb _ _) (by repeat constructor) ?_
    refine H.Aa (x := logsH _ _ _) (by repeat constructor) ?_
    refine H.Aa (x := row ob _ _) (by repeat constructor) ?_
    exact H.Bb (ls := (⟨5, 1, 0, Req.zero, [], noTag⟩ : Bod).vals none 0) rfl rfl rfl (Rd.ofRow (.here _ _ _)) rfl (fun _ s => s.drop (.here _ _)) ⟨nil0, none, 0, rfl, QAt.nil _ _, Dj.nil _, (un_nil _).symm, rfl⟩
   ·rw [show fix1 (X.w.v) = X.w.v from if_neg hz]
    refine gU ?_
    refine H.Ah (ls := (⟨5, X.w.v, 0, Req.zero, [], noTag⟩ : Bod).vals none 0) rfl rfl rfl (Rd.ofRow (.here _ _ _)) rfl rfl ?_
    refine H.Ak (ls := (Bod.zero 0).vals none 0) (vs := (⟨5, X.w.v, 0, Req.zero, [], noTag⟩ : Bod).vals none 0) (ls' := (⟨5, X.w.v, 0, Req.zero, [], noTag⟩ : Bod).vals none 0) rfl rfl rfl (zad rfl) rfl rfl (Nat.le_refl 76) (by repeat constructor) ?_
    refine ga ?_
    refine H.Ab (x := row bb _ _) (by repeat constructor) ?_
    refine H.Ab (x := row xb _ _) (by repeat constructor) ?_
    refine H.Aa (x := row kb _ _) (by repeat constructor) ?_
    refine H.Aa (x := row wb _ _) (by repeat constructor) ?_
    refine H.Aa (x := logsH _ _ _) (by repeat constructor) ?_
    refine H.Aa (x := row ob _ _) (by repeat constructor) ?_
    exact H.Bb (ls := (⟨5, X.w.v, 0, Req.zero, [], noTag⟩ : Bod).vals none 0) rfl rfl rfl (Rd.ofRow (.here _ _ _)) rfl (fun _ s => s.drop (.here _ _)) ⟨nil0, none, 0, rfl, QAt.nil _ _, Dj.nil _, (un_nil _).symm, rfl⟩
 ·have hk6 : ((x.kind.toNat : Nat) : Int).tmod 6 = 5 := zal (b := 6) h
  rw [h]
  show Fn _ _ _ f _ (BodP f _ (⟨6, 0, (1 + ((x.k.toNat % 6 : Nat) : Int)), Req.zero, [], dig0 x.key⟩ : Bod))
  refine Fn.enter Tryz.func94 rfl Tryz.ntmps94 rfl (L := [(0, _), (1, _), (2, _)]) ⟨rfl, rfl, rfl, trivial⟩ fun base => ?_
  refine gC ?_
  refine H.box (ls := x.vals) rfl rfl rfl rfl fun xb => ?_
  refine H.Au (ls := (Bod.zero 0).vals none 0) rfl rfl rfl fun ob => ?_
  refine gX ?_
  refine H.rem rfl rfl rfl (by decide) hk6 rfl ?_
  refine gP ?_
  refine H.rem (z := ((x.view.toNat % 6 : Nat) : Int)) rfl rfl rfl (by decide) (zal (b := 6) rfl) rfl ?_
  refine gP ?_
  refine H.rem (z := ((x.k.toNat % 6 : Nat) : Int)) rfl rfl rfl (by decide) (zal (b := 6) rfl) rfl ?_
  repeat (first | (refine H.Bc (t := 45) (out := (bodW 6 ((x.view.toNat % 6 : Nat) : Int) (1 + ((x.k.toNat % 6 : Nat) : Int))).vals none 0) rfl rfl rfl (by kernel_rfl) rfl ?_) | ((first | (apply H.ar; (iterate 4 exact rfl)) | (apply H.Bh; (iterate 2 exact rfl))); (with_reducible apply wr_u64; omega); exact rfl))
  refine H.Au (ls := (Bod.zero 0).vals none 0) rfl rfl rfl fun bb => ?_
  refine H.Ak (ls := (Bod.zero 0).vals none 0) (vs := (bodW 6 ((x.view.toNat % 6 : Nat) : Int) (1 + ((x.k.toNat % 6 : Nat) : Int))).vals none 0) (ls' := (bodW 6 ((x.view.toNat % 6 : Nat) : Int) (1 + ((x.k.toNat % 6 : Nat) : Int))).vals none 0) rfl rfl rfl (zad rfl) rfl rfl (Nat.le_refl 76) (.here _ _ _) ?_
  refine gN ?_
  refine H.Aa (x := row wb _ _) (by repeat constructor) ?_
  refine H.Aa (x := logsH _ _ _) (by repeat constructor) ?_
  refine H.Af rfl rfl rfl (hgr _) ?_
  refine H.Aa (x := row xb _ _) (by repeat constructor) ?_
  refine H.Aa (x := row bb _ _) (by repeat constructor) ?_
  refine gO ?_
  refine H.Ay (i := 0) rfl rfl rfl rfl (by decide) rfl ?_
  refine gf ?_
  refine H.Ah (ls := (⟨6, 0, (1 + ((x.k.toNat % 6 : Nat) : Int)), Req.zero, [], dig0 x.key⟩ : Bod).vals none 0) rfl rfl rfl (Rd.ofRow (.here _ _ _)) rfl rfl ?_
  refine H.Ak (ls := (Bod.zero 0).vals none 0) (vs := (⟨6, 0, (1 + ((x.k.toNat % 6 : Nat) : Int)), Req.zero, [], dig0 x.key⟩ : Bod).vals none 0) (ls' := (⟨6, 0, (1 + ((x.k.toNat % 6 : Nat) : Int)), Req.zero, [], dig0 x.key⟩ : Bod).vals none 0) rfl rfl rfl (zad rfl) rfl rfl (Nat.le_refl 76) (by repeat constructor) ?_
  refine ga ?_
  refine H.Ab (x := row bb _ _) (by repeat constructor) ?_
  refine H.Ab (x := row xb _ _) (by repeat constructor) ?_
  refine H.Aa (x := row kb _ _) (by repeat constructor) ?_
  refine H.Aa (x := row wb _ _) (by repeat constructor) ?_
  refine H.Aa (x := logsH _ _ _) (by repeat constructor) ?_
  refine H.Aa (x := row ob _ _) (by repeat constructor) ?_
  exact H.Bb (ls := (⟨6, 0, (1 + ((x.k.toNat % 6 : Nat) : Int)), Req.zero, [], dig0 x.key⟩ : Bod).vals none 0) rfl rfl rfl (Rd.ofRow (.here _ _ _)) rfl (fun _ s => s.drop (.here _ _)) ⟨nil0, none, 0, rfl, QAt.nil _ _, Dj.nil _, (un_nil _).symm, rfl⟩
end
structure W15P where
 kb : Nat
 lb : Nat
 ap : Option Addr
 ac : Nat
 l : List MV
def w15φ (e : Frag) (W : W15) (i : W15P) : Prop := i.l.map MV.m = W.w.all ∧ ∀ y ∈ i.l, y.Good e
def w15B (e : Frag) (wb n : Nat) (W : W15) (i : W15P) : List HP := [row wb 96 (w15C i.kb n i.ap i.l.length i.ac i.lb), row i.kb 37 (kRow n W.w.kv), slc i.ap i.l.length i.ac 47 121 (i.l.flatMap MV.vals), logsH e i.lb W.l]
def wH15 (e : Frag) (wb n : Nat) (W : W15) : HP := pack (w15φ e W) (w15B e wb n W)
theorem w15_fold {e : Frag} {F : List HP} {wb n : Nat} {W : W15} (i : W15P) (h : w15φ e W i) : ∀ x, stars (w15B e wb n W i ++ F) x → stars (wH15 e wb n W :: F) x := fun x hx => pack_fold (φ := w15φ e W) (B := w15B e wb n W) i h x hx
theorem w15_mono {f g : Frag} (h : Le f g) {wb n : Nat} {W : W15} : ∀ x, wH15 f wb n W x → wH15 g wb n W x := fun _ ⟨i, hi, hx⟩ => ⟨i, ⟨hi.1, fun y hy => (hi.2 y hy).mono h⟩, by
 obtain ⟨m1, m2, d1, e1, a1, m3, m4, d2, e2, a2, m5, m6, d3, e3, a3, m7, m8, d4, e4, a4, r4⟩ := hx
 exact ⟨m1, m2, d1, e1, a1, m3, m4, d2, e2, a2, m5, m6, d3, e3, a3, m7, m8, d4, e4, logsH_mono h _ a4, r4⟩⟩
theorem w15_up {f g : Frag} (h : Le f g) {wb n : Nat} {W : W15} {A : List HP} : ∀ x, stars (wH15 f wb n W :: A) x → stars (wH15 g wb n W :: A) x := fun _ ⟨h1, h2, hd, he, ha, hr⟩ => ⟨h1, h2, hd, he, w15_mono h _ ha, hr⟩
def DoP (f : Frag) (F : List HP) (wb n : Nat) (W : W15) : Value → Frag → List HP → Prop := fun v f' A' => ∃ (g : Frag) (u : Value), Dj f g ∧ v = u ∧ f' = un f g ∧ A' = wH15 f' wb n W :: F
section
variable (f : Frag) (F : List HP)
set_option maxRecDepth 20000 in
set_option maxHeartbeats 3200000 in
theorem do_fn {fl : Frag} (hfl : Le fl f) {wb n : Nat} {W : W15} {T : Nat} (hn3 : 3 ≤ n ∧ n ≤ 11) (hW : WI n W T) (hT : T ≤ 900) (hal : W.w.all.length ≤ 900) {x : A15} (hx : x.Has f) (hq20 : x.q.length ≤ 20) :
  Fn Tryz.prog 74 [.pointer (some ⟨wb, 0, none⟩), .agg x.vals.toArray] f (wH15 fl wb n W :: F) (DoP f F wb n (W.act n x)) := by
 refine Fn.unpack fun i0 hi => ?_
 obtain ⟨kb, lb, ap, ac, l⟩ := i0
 have hlm : l.map MV.m = W.w.all := hi.1
 have hlg : ∀ y ∈ l, y.Good fl := hi.2
 have hll : l.length ≤ 900 := by
  have := congrArg List.length hlm
  rw [List.length_map] at this
  omega
 have hn0 : ((n : Nat) : Int) ≠ 0 := by omega
 have ho : x.who.toNat % n < n := Nat.mod_lt _ (by omega)
 have hkv := hW.w.kv_le ho
 have hwho := x.who.toNat_lt
 have hoth := x.other.toNat_lt
 have hj : x.other.toNat % n < n := Nat.mod_lt _ (by omega)
 show Fn _ _ _ f (row wb 96 (w15C kb n ap l.length ac lb) :: row kb 37 (kRow n W.w.kv) :: slc ap l.length ac 47 121 (l.flatMap MV.vals) :: logsH fl lb W.l :: F) _
 refine Fn.enter Tryz.func74 rfl Tryz.ntmps74 rfl (L := [(0, _), (1, _)]) ⟨rfl, rfl, trivial⟩ fun base => ?_
 refine gC ?_
 refine H.box (ls := x.vals) rfl rfl rfl rfl fun xb => ?_
 refine H.Au (ls := msgZ.vals none 0) rfl rfl rfl fun ob => ?_
 refine gX ?_
 refine H.rem (z := ((x.who.toNat % n : Nat) : Int)) rfl rfl rfl hn0 (zal (a := x.who.toNat) (b := n) rfl) rfl ?_
 refine gX ?_
 cases hmt : x.meet with
 | true =>
  have hact : W.act n x = { W with w := W.w.meet (x.who.toNat % n) (x.other.toNat % n) } := by unfold W15.act; rw [if_pos hmt]
  rw [hact]
  refine gZ ?_
  refine H.rem (z := ((x.other.toNat % n : Nat) : Int)) rfl rfl rfl hn0 (zal (a := x.other.toNat) (b := n) rfl) rfl ?_
  refine ga ?_
  generalize hoe : x.who.toNat % n = o at *
  generalize hje : x.other.toNat % n = j at *
  have ho11 : o < 11 := by omega
  refine H.Aa (x := row kb _ _) (by repeat constructor) ?_
  refine H.Aa (x := row wb _ _) (by repeat constructor) ?_
  refine H.Aw (ι := Nat) (fun i => [(8, .int .i64 (i : Int)), (6, .int .i64 (1 + (o : Int))), (7, .int .i64 (j : Int)), (0, .pointer (some ⟨wb, 0, none⟩)), (4, .pointer (some ⟨ob, 0, none⟩))]) (fun _ => f)
   (fun i => row wb 96 (w15C kb n ap l.length ac lb) :: row kb 37 (kRow n (raised W.w.kv o j i)) :: row ob 47 (msgZ.vals none 0) :: row xb 144 x.vals :: slc ap l.length ac 47 121 (l.flatMap MV.vals) :: logsH fl lb W.l :: F)
   (fun i => i ≤ 11) (fun i => 11 - i) 0 (Nat.zero_le _) ⟨rfl, rfl, rfl, rfl, rfl, trivial⟩ rfl (by rw [raised_zero]) fun i hi2 => ?_
  have hi2 : i ≤ 11 := hi2
  by_cases hi11 : i < 11
  ·have hro := raised_o W.w.kv o j i
   have hrj := raised_j W.w.kv o j i
   have hrn := raised_next W.w.kv o j i
   have hg1 := kRow_get (kv := raised W.w.kv o j i) ho hi11
   have hg2 := kRow_get (kv := raised W.w.kv o j i) hj hi11
   rw [hro] at hg1
   rw [hrj] at hg2
   have hset := kRow_set (kv := raised W.w.kv o j i) (maxV (W.w.kv o) (W.w.kv j) i) ho hi11
   rw [hrn] at hset
   have hoo : (1 : Int) + (o : Int) - 1 = (o : Nat) := by omega
   refine gJ ?_
   refine H.Bu [0, 1, 2, 3, 4, 5, 6, 7, 8, 9, 10, 11, 12, 13, 14, 15, 16, 17, 18, 19, 20, 21, 22, 23, 24, 25, 26, 27, 28] (by kernel_rfl) (by decide +kernel) (by repeat (first | exact zab | refine zaa ?_ | refine zac ?_ | refine zae ?_)) (S := [_, _]) rfl ?_
   refine HB.Ag [(0, false), (1, false), (2, false), (3, false), (4, false), (5, false), (6, false), (7, false), (8, false), (9, false), (10, false), (11, false), (12, false), (13, false), (14, false), (15, false), (16, false), (17, false), (18, false), (19, false), (20, false), (21, false), (22, false), (23, false), (24, false), (25, false), (26, false), (27, false), (28, false)] 1 (by kernel_rfl) ?_
   refine gT ?_
   refine HQ.Ar (i := o) rfl rfl rfl hoo ho rfl ?_
   refine HQ.Ay (i := i) rfl rfl rfl rfl hi11 rfl ?_
   refine HQ.Ae rfl rfl rfl (.at0 (Rd.ofRow (.there _ (.here _ _ _))) (by rw [Nat.zero_add, Nat.mul_one]; exact hg1)) rfl ?_
   refine gT ?_
   refine HQ.Ar (i := j) rfl rfl rfl rfl hj rfl ?_
   refine HQ.Ay (i := i) rfl rfl rfl rfl hi11 rfl ?_
   refine HQ.Ae rfl rfl rfl (.at0 (Rd.ofRow (.there _ (.here _ _ _))) (by rw [Nat.zero_add, Nat.mul_one]; exact hg2)) rfl ?_
   refine HQ.max2 (z := maxV (W.w.kv o) (W.w.kv j) i) rfl rfl rfl rfl rfl ?_
   refine HQ.Ar (i := o) rfl rfl rfl hoo ho rfl ?_
   refine HQ.Ay (i := i) rfl rfl rfl rfl hi11 rfl ?_
   refine HQ.Ad rfl ?_
   refine HB.next [] (by kernel_rfl) (S' := []) rfl ?_
   refine HB.ev1 (i := 29) (by kernel_rfl) rfl ?_
   refine H.Bi (v := .int .u64 (maxV (W.w.kv o) (W.w.kv j) i)) (ls := kRow n (raised W.w.kv o j i)) (ls' := kRow n (raised W.w.kv o j (i + 1))) rfl rfl rfl rfl (.there _ (.here _ _ _)) (by rw [Nat.zero_add, Nat.mul_one]; exact hset) ?_
   refine gC ?_
   refine H.on0 rfl ?_
   refine HB.Al (by kernel_rfl) ?_
   refine gW ?_
   exact H.Am (i + 1) (by show i + 1 ≤ 11; omega) (by show 11 - (i + 1) < 11 - i; omega) ⟨rfl, rfl, rfl, rfl, rfl, trivial⟩ rfl rfl
  ·have e : i = 11 := by omega
   subst e
   rw [raised_end]
   repeat (first | (refine H.Bc (t := 47) (out := msgZ.vals none 0) rfl rfl rfl (by kernel_rfl) rfl ?_) | ((apply H.Aj); (iterate 3 exact rfl)) | (first | apply H.seq | apply H.Ap | apply H.nil | apply H.Aq) | ((apply H.cmp); (iterate 5 exact rfl)) | (apply H.Ci; exact rfl) | (first | apply H.Cb | apply H.exit | apply H.Cd | apply H.Cc))
   refine H.Ak (ls := msgZ.vals none 0) (vs := msgZ.vals none 0) (ls' := msgZ.vals none 0) rfl rfl rfl (zad rfl) rfl rfl (Nat.le_refl 121) (by repeat constructor) ?_
   refine ga ?_
   refine H.Ab (x := row xb _ _) (by repeat constructor) ?_
   refine H.Aa (x := row ob _ _) (by repeat constructor) ?_
   exact H.Bb (ls := msgZ.vals none 0) rfl rfl rfl (Rd.ofRow (.here _ _ _)) rfl (fun _ s => (s.drop (.here _ _)).imp (fun z hz => w15_up hfl z (w15_fold (W := { W with w := W.w.meet o j }) ⟨kb, lb, ap, ac, l⟩ ⟨hlm, hlg⟩ z hz))) ⟨nil0, _, Dj.nil _, rfl, (un_nil f).symm, rfl⟩
 | false =>
  refine gW ?_
  generalize hoe : x.who.toNat % n = o at *
  have ho11 : o < 11 := by omega
  have hoo : (1 : Int) + (o : Int) - 1 = (o : Nat) := by omega
  have ho1 : (1 : Int) + (o : Int) = ((o + 1 : Nat) : Int) := by omega
  have hact : W.act n x = if (W.next n o x).may = true then ⟨W.w.say o (W.next n o x).signed, (W.l.take (W.next n o x).signed).2⟩ else W := by
   unfold W15.act
   rw [if_neg (by rw [hmt]; decide), hoe]
  have hgk0 := kRow_get (kv := W.w.kv) ho ho11
  have hko := hkv o
  have hbody := fun G => body15_fn f G hfl (wb := wb) (kb := kb) (lb := lb) hW (by omega) (ap := ap) (m := l.length) (ac := ac) ho hx hq20
  refine H.Aa (x := logsH _ _ _) (by repeat constructor) ?_
  refine H.Aa (x := row kb _ _) (by repeat constructor) ?_
  refine H.Aa (x := row wb _ _) (by repeat constructor) ?_
  refine H.Aa (x := row xb _ _) (by repeat constructor) ?_
  refine H.cut (ι := Frag × Option Addr × Nat × Nat) (fun s => [(9, .pointer (some ⟨s.2.2.2, 0, none⟩)), (6, .int .i64 (1 + (o : Int))), (0, .pointer (some ⟨wb, 0, none⟩)), (4, .pointer (some ⟨ob, 0, none⟩))]) (fun s => un f s.1)
   (fun s => row xb 144 x.vals :: row s.2.2.2 47 ((W.next n o x).vals s.2.1 s.2.2.1) :: row ob 47 (msgZ.vals none 0) :: row wb 96 (w15C kb n ap l.length ac lb) :: row kb 37 (kRow n W.w.kv) :: logsH fl lb W.l :: slc ap l.length ac 47 121 (l.flatMap MV.vals) :: F)
   (fun s => QAt (un f s.1) s.2.1 (W.next n o x).body.q ∧ Dj f s.1) _ (fun s hs => ?_) ?_
  ·obtain ⟨g, qp, qc, mb⟩ := s
   obtain ⟨hqat, hd⟩ : QAt (un f g) qp (W.next n o x).body.q ∧ Dj f g := hs
   have hle2 := Le.un f g
   have hql := (x.bod_q hW (by omega) (o := o)).1
   have hgood : (⟨W.next n o x, qp, qc⟩ : MV).Good (un f g) := ⟨hqat, by show (x.bod W n o).q.length ≤ _; omega, A15.bod_ok hW (by omega) ho x⟩
   have hmsg := good_signed hgood
   have hmay := fun H => rmmay_fn (un f g) H hgood
   have hsg := fun H => rtagged_fn (un f g) H (m := W.next n o x) (q := qp) (qc := qc) hgood.1 (by show (x.bod W n o).q.length ≤ _; omega)
   show H _ _ _ [_, _, _, _] (un f g) (_ :: row mb _ ((W.next n o x).vals qp qc) :: _ :: _ :: _ :: _ :: _ :: F) _
   refine gC ?_
   refine H.Ah (ls := (W.next n o x).vals qp qc) rfl rfl rfl (Rd.ofRow (.there _ (.here _ _ _))) rfl rfl ?_
   refine H.Af rfl rfl rfl (hmay _) ?_
   refine H.not (b := _) (c := _) rfl rfl rfl rfl ?_
   cases hmy : (W.next n o x).may with
   | false =>
    rw [hact, if_neg (by rw [hmy]; decide)]
    repeat (first | (refine H.Bc (t := 47) (out := msgZ.vals none 0) rfl rfl rfl (by kernel_rfl) rfl ?_) | (first | apply H.seq | apply H.Ap | apply H.nil | apply H.Aq) | (apply H.Cm; exact rfl))
    refine H.Ak (ls := msgZ.vals none 0) (vs := msgZ.vals none 0) (ls' := msgZ.vals none 0) rfl rfl rfl (zad rfl) rfl rfl (Nat.le_refl 121) (by repeat constructor) ?_
    refine ga ?_
    refine H.Ab (x := row xb _ _) (by repeat constructor) ?_
    refine H.Ab (x := row mb _ _) (by repeat constructor) ?_
    refine H.Aa (x := slc ap _ ac _ _ _) (by repeat constructor) ?_
    refine H.Aa (x := row kb _ _) (by repeat constructor) ?_
    refine H.Aa (x := row wb _ _) (by repeat constructor) ?_
    refine H.Aa (x := row ob _ _) (by repeat constructor) ?_
    exact H.Bb (ls := msgZ.vals none 0) rfl rfl rfl (Rd.ofRow (.here _ _ _)) rfl (fun _ s => (s.drop (.here _ _)).imp (fun z hz => w15_up (hfl.trans hle2) z (w15_fold ⟨kb, lb, ap, ac, l⟩ ⟨hlm, hlg⟩ z hz))) ⟨g, _, hd, rfl, rfl, rfl⟩
   | true =>
    rw [hact, if_pos hmy]
    generalize hms : (W.next n o x).signed = ms at *
    have htake := fun H => take_fn (un f g) H (hfl.trans hle2) (lb := lb) hW.l (by omega) (x := ⟨ms, qp, qc⟩) hmsg
    refine gW ?_
    refine H.Ah (ls := (W.next n o x).vals qp qc) rfl rfl rfl (Rd.ofRow (.there _ (.here _ _ _))) rfl rfl ?_
    refine H.Af rfl rfl rfl (hsg _) ?_
    refine H.Ak (ls := (W.next n o x).vals qp qc) (vs := ms.vals qp qc) (ls' := ms.vals qp qc) rfl rfl rfl (zad rfl) rfl rfl (Nat.le_refl 121) (.there _ (.here _ _ _)) ?_
    refine gC ?_
    refine H.Aa (x := row wb _ _) (by repeat constructor) ?_
    refine H.Aa (x := row mb _ _) (by repeat constructor) ?_
    refine H.Az (by kernel_rfl) (by decide +kernel) (by repeat (first | exact zab | refine zaa ?_ | refine zac ?_ | refine zae ?_)) (S := [_, _]) rfl ?_
    refine HB.Ag [(0, false), (1, false), (2, false), (3, false), (4, false)] 1 (by kernel_rfl) ?_
    refine gT ?_
    refine HQ.Ah (ls := ms.vals qp qc) rfl rfl rfl (Rd.ofRow (.here _ _ _)) rfl rfl ?_
    refine HQ.Ad rfl ?_
    refine HB.ev1 (i := 5) (by kernel_rfl) rfl ?_
    refine H.Aa (x := logsH _ _ _) (by repeat constructor) ?_
    refine H.Bp rfl rfl rfl (htake _) fun v f' A' hr => ?_
    obtain ⟨g2, hd2, rfl, rfl, rfl⟩ := hr
    refine gC ?_
    refine H.Aa (x := row wb _ _) (by repeat constructor) ?_
    refine H.Aa (x := row mb _ _) (by repeat constructor) ?_
    refine H.on [] (Le.un _ g2) rfl ?_
    refine HB.Al (by kernel_rfl) ?_
    refine gC ?_
    refine H.Bu [0, 1, 2, 3, 4, 5, 6, 7] (by kernel_rfl) (by decide +kernel) (by repeat (first | exact zab | refine zaa ?_ | refine zac ?_ | refine zae ?_)) (S := [_, _]) rfl ?_
    refine HB.Ag [(0, false), (1, false), (2, false), (3, false), (4, false), (5, false)] 5 (by kernel_rfl) ?_
    refine gT ?_
    refine HQ.Ah (ls := ms.vals qp qc) rfl rfl rfl (Rd.ofRow (.here _ _ _)) rfl rfl ?_
    refine HQ.Ad rfl ?_
    refine HB.ev1 (i := 6) (by kernel_rfl) rfl ?_
    refine H.Ba (out := ms.vals qp qc) rfl rfl rfl rfl (by decide) (by decide) rfl rfl fun eb => ?_
    refine gC ?_
    refine H.Aa (x := row wb _ _) (by repeat constructor) ?_
    refine H.Aa (x := row mb _ _) (by repeat constructor) ?_
    refine H.on0 rfl ?_
    refine HB.ev1 (i := 7) (by kernel_rfl) rfl ?_
    refine H.Bd (sz := 121) (p := ap) (n0 := l.length) (c := ac) (xs := l.flatMap MV.vals) (m := 1) (news := ms.vals qp qc) rfl rfl rfl rfl rfl (fun p' c' => (by repeat constructor)) (Src.slice (Rd.ofRow (by repeat constructor)) rfl) (zad rfl) rfl (by omega) (by omega) fun ap2 ac2 => ?_
    refine gC ?_
    refine H.Ab (x := row eb _ _) (by repeat constructor) ?_
    refine H.on0 rfl ?_
    refine HB.next [] (by kernel_rfl) (S' := []) rfl ?_
    refine HB.Ag [(8, false), (9, false)] 1 (by kernel_rfl) ?_
    refine gT ?_
    refine HQ.Ad rfl ?_
    refine HB.ev1 (i := 10) (by kernel_rfl) rfl ?_
    refine H.Bi (ls := w15C kb n ap l.length ac lb) (ls' := w15C kb n ap2 (l.length + 1) ac2 lb) rfl rfl rfl rfl (.there _ (.here _ _ _)) (.there _ (.here _ _ _)) ?_
    refine gC ?_
    refine H.on0 rfl ?_
    refine HB.Al (by kernel_rfl) ?_
    refine gC ?_
    have hset := kRow_set (kv := W.w.kv) (W.w.kv o o + 1) ho ho11
    refine H.Aa (x := row kb _ _) (by repeat constructor) ?_
    refine H.Aa (x := row wb _ _) (by repeat constructor) ?_
    refine H.Bu [0, 1, 2, 3, 4, 5, 6, 7, 8, 9, 10, 11, 12, 13] (by kernel_rfl) (by decide +kernel) (by repeat (first | exact zab | refine zaa ?_ | refine zac ?_ | refine zae ?_)) (S := [_, _]) rfl ?_
    refine HB.Ag [(0, false), (1, false), (2, false), (3, false), (4, false), (5, false), (6, false), (7, false), (8, false), (9, false), (10, false), (11, false), (12, false), (13, false)] 1 (by kernel_rfl) ?_
    refine gT ?_
    refine HQ.Ar (i := o) rfl rfl rfl hoo ho rfl ?_
    refine HQ.Ay (i := o) rfl rfl rfl hoo ho11 rfl ?_
    refine HQ.Ae rfl rfl rfl (.at0 (Rd.ofRow (.there _ (.here _ _ _))) (by rw [Nat.zero_add, Nat.mul_one]; exact hgk0)) rfl ?_
    refine gT ?_
    refine HQ.Ar (i := o) rfl rfl rfl hoo ho rfl ?_
    refine HQ.Ay (i := o) rfl rfl rfl hoo ho11 rfl ?_
    refine HQ.Ad rfl ?_
    refine HB.next [] (by kernel_rfl) (S' := []) rfl ?_
    refine HB.ev1 (i := 14) (by kernel_rfl) rfl ?_
    refine H.Bi (v := .int .u64 (W.w.kv o o + 1)) (ls := kRow n W.w.kv) (ls' := kRow n (W.w.say o ms).kv) rfl rfl rfl rfl (.there _ (.here _ _ _)) (by rw [Nat.zero_add, Nat.mul_one]; exact hset) ?_
    refine gC ?_
    refine H.on0 rfl ?_
    refine HB.Al (by kernel_rfl) ?_
    refine gC ?_
    refine H.Aa (x := row mb _ _) (by repeat constructor) ?_
    refine H.Ah (ls := ms.vals qp qc) rfl rfl rfl (Rd.ofRow (.here _ _ _)) rfl rfl ?_
    refine H.Ak (ls := msgZ.vals none 0) (vs := ms.vals qp qc) (ls' := ms.vals qp qc) rfl rfl rfl (zad rfl) rfl rfl (Nat.le_refl 121) (by repeat constructor) ?_
    refine ga ?_
    refine H.Ab (x := row xb _ _) (by repeat constructor) ?_
    refine H.Ab (x := row mb _ _) (by repeat constructor) ?_
    refine H.Aa (x := logsH _ _ _) (by repeat constructor) ?_
    refine H.Aa (x := slc ap2 _ ac2 _ _ _) (by repeat constructor) ?_
    refine H.Aa (x := row kb _ _) (by repeat constructor) ?_
    refine H.Aa (x := row wb _ _) (by repeat constructor) ?_
    refine H.Aa (x := row ob _ _) (by repeat constructor) ?_
    have hle3 := Le.un (un f g) g2
    have hφ : w15φ (un (un f g) g2) ⟨W.w.say o ms, (W.l.take ms).2⟩ ⟨kb, lb, ap2, ac2, l ++ [⟨ms, qp, qc⟩]⟩ := by
     refine ⟨?_, fun y hy => ?_⟩
     ·show (l ++ [(⟨ms, qp, qc⟩ : MV)]).map MV.m = W.w.all ++ [ms]
      rw [List.map_append, hlm]
      rfl
     ·rcases List.mem_append.1 hy with h | h
      ·exact (hlg y h).mono ((hfl.trans hle2).trans hle3)
      ·rw [List.mem_singleton.1 h]; exact hmsg.mono hle3
    have hsl : slc ap2 (l.length + 1) ac2 47 121 (l.flatMap MV.vals ++ ms.vals qp qc) = slc ap2 (l ++ [(⟨ms, qp, qc⟩ : MV)]).length ac2 47 121 ((l ++ [(⟨ms, qp, qc⟩ : MV)]).flatMap MV.vals) := slc_snoc (y := (⟨ms, qp, qc⟩ : MV))
    have hfold := w15_fold (F := F) (wb := wb) (n := n) _ hφ
    exact H.Bb (ls := ms.vals qp qc) rfl rfl rfl (Rd.ofRow (.here _ _ _)) rfl (fun _ s => (s.drop (.here _ _)).imp (fun z hz => hfold z (by
     rw [hsl] at hz
     show stars (row wb _ (w15C kb n ap2 (l ++ [(⟨ms, qp, qc⟩ : MV)]).length ac2 lb) :: _) z
     rw [List.length_append]
     rw [List.length_append] at hz
     exact hz))) ⟨un g g2, _, Dj.un3' hd hd2, rfl, un_assoc _ _ _, rfl⟩
  ·refine H.Az (by kernel_rfl) (by decide +kernel) (by repeat (first | exact zab | refine zaa ?_ | refine zac ?_ | refine zae ?_)) (S := [_, _, _]) rfl ?_
   refine HB.Ag [(0, false), (1, false), (2, false), (3, false), (4, false), (5, false), (6, false), (7, false), (8, false), (9, false), (10, false), (11, false), (12, false), (13, false), (14, false), (15, false), (16, false), (17, false), (18, false), (19, false), (20, false), (21, false), (22, false), (23, false)] 4 (by kernel_rfl) ?_
   refine gT ?_
   refine HQ.Ar (i := o) rfl rfl rfl hoo ho rfl ?_
   refine HQ.Ay (i := o) rfl rfl rfl hoo ho11 rfl ?_
   refine HQ.Ae rfl rfl rfl (.at0 (Rd.ofRow (.there _ (.there _ (.here _ _ _)))) (by rw [Nat.zero_add, Nat.mul_one]; exact hgk0)) rfl ?_
   refine gT ?_
   refine HQ.Ar (i := o) rfl rfl rfl hoo ho rfl ?_
   refine HQ.Ah (ls := v11 (W.w.kv o)) rfl rfl rfl (by rw [Nat.zero_add]; exact Rd.kRow (Rd.ofRow (.there _ (.there _ (.here _ _ _)))) ho) rfl rfl ?_
   refine gD ?_
   refine HQ.Ah (ls := x.vals) rfl rfl rfl (Rd.ofRow (.here _ _ _)) rfl rfl ?_
   refine HQ.Ad rfl ?_
   refine HB.ev2 (i := 24) (j := 26) (by kernel_rfl) rfl rfl ?_ ?_
   ·refine H.Aa (x := row kb _ _) (by repeat constructor) ?_
    refine H.Aa (x := row wb _ _) (by repeat constructor) ?_
    refine H.Aa (x := logsH _ _ _) (by repeat constructor) ?_
    rw [ho1]
    refine H.Bp rfl rfl rfl (hbody _) fun v f' A' hr => ?_
    obtain ⟨g, qp, qc, rfl, hqat, hd, rfl, rfl⟩ := hr
    refine gC ?_
    refine H.Aa (x := row kb _ _) (by repeat constructor) ?_
    refine H.Aa (x := row wb _ _) (by repeat constructor) ?_
    refine H.Aa (x := row xb _ _) (by repeat constructor) ?_
    refine H.on [] (Le.un _ g) rfl ?_
    refine HB.Ag [(25, false)] 2 (by kernel_rfl) ?_
    refine HQ.Bc (t := 47) (out := (W.next n o x).vals qp qc) rfl rfl rfl (by kernel_rfl) rfl ?_
    refine HQ.Ad rfl ?_
    refine HB.ev1 (i := 26) (by kernel_rfl) rfl ?_
    refine H.Au (ls := msgZ.vals none 0) rfl rfl rfl fun mb => ?_
    refine gC ?_
    refine H.Aa (x := row kb _ _) (by repeat constructor) ?_
    refine H.Aa (x := row wb _ _) (by repeat constructor) ?_
    refine H.Aa (x := row xb _ _) (by repeat constructor) ?_
    refine H.on0 rfl ?_
    refine HB.ev1 (i := 27) (by kernel_rfl) rfl ?_
    refine H.Ak (ls := msgZ.vals none 0) (vs := (W.next n o x).vals qp qc) (ls' := (W.next n o x).vals qp qc) rfl rfl rfl (zad rfl) rfl rfl (Nat.le_refl 121) (by repeat constructor) ?_
    refine gC ?_
    refine H.on0 rfl ?_
    refine HB.Al (by kernel_rfl) ?_
    refine H.Aa (x := slc ap _ ac _ _ _) (by repeat constructor) ?_
    refine H.Aa (x := logsH _ _ _) (by repeat constructor) ?_
    refine H.Aa (x := row kb _ _) (by repeat constructor) ?_
    refine H.Aa (x := row wb _ _) (by repeat constructor) ?_
    refine H.Aa (x := row ob _ _) (by repeat constructor) ?_
    refine H.Aa (x := row mb _ _) (by repeat constructor) ?_
    refine H.Aa (x := row xb _ _) (by repeat constructor) ?_
    exact H.meet (g, qp, qc, mb) ⟨hqat, hd⟩ ⟨rfl, rfl, rfl, rfl, trivial⟩ rfl rfl
   ·refine H.Au (ls := msgZ.vals none 0) rfl rfl rfl fun mb => ?_
    refine gC ?_
    refine H.Aa (x := row kb _ _) (by repeat constructor) ?_
    refine H.Aa (x := row wb _ _) (by repeat constructor) ?_
    refine H.Aa (x := row xb _ _) (by repeat constructor) ?_
    refine H.on0 rfl ?_
    refine HB.ev1 (i := 24) (by kernel_rfl) rfl ?_
    refine H.Aa (x := row kb _ _) (by repeat constructor) ?_
    refine H.Aa (x := row wb _ _) (by repeat constructor) ?_
    refine H.Aa (x := logsH _ _ _) (by repeat constructor) ?_
    rw [ho1]
    refine H.Bp rfl rfl rfl (hbody _) fun v f' A' hr => ?_
    obtain ⟨g, qp, qc, rfl, hqat, hd, rfl, rfl⟩ := hr
    refine gC ?_
    refine H.Aa (x := row kb _ _) (by repeat constructor) ?_
    refine H.Aa (x := row wb _ _) (by repeat constructor) ?_
    refine H.Aa (x := row xb _ _) (by repeat constructor) ?_
    refine H.on [] (Le.un _ g) rfl ?_
    refine HB.Ag [(25, false)] 1 (by kernel_rfl) ?_
    refine HQ.Bc (t := 47) (out := (W.next n o x).vals qp qc) rfl rfl rfl (by kernel_rfl) rfl ?_
    refine HQ.Ad rfl ?_
    refine HB.ev1 (i := 27) (by kernel_rfl) rfl ?_
    refine H.Ak (ls := msgZ.vals none 0) (vs := (W.next n o x).vals qp qc) (ls' := (W.next n o x).vals qp qc) rfl rfl rfl (zad rfl) rfl rfl (Nat.le_refl 121) (by repeat constructor) ?_
    refine gC ?_
    refine H.on0 rfl ?_
    refine HB.Al (by kernel_rfl) ?_
    refine H.Aa (x := slc ap _ ac _ _ _) (by repeat constructor) ?_
    refine H.Aa (x := logsH _ _ _) (by repeat constructor) ?_
    refine H.Aa (x := row kb _ _) (by repeat constructor) ?_
    refine H.Aa (x := row wb _ _) (by repeat constructor) ?_
    refine H.Aa (x := row ob _ _) (by repeat constructor) ?_
    refine H.Aa (x := row mb _ _) (by repeat constructor) ?_
    refine H.Aa (x := row xb _ _) (by repeat constructor) ?_
    exact H.meet (g, qp, qc, mb) ⟨hqat, hd⟩ ⟨rfl, rfl, rfl, rfl, trivial⟩ rfl rfl
end
def few15 (l : List A15) : Bool := decide (l.length ≤ 100) && l.all fun x => decide (x.q.length ≤ 20)
theorem few15_all {l : List A15} (h : few15 l = true) : l.length ≤ 100 ∧ ∀ x ∈ l, x.q.length ≤ 20 := by
 unfold few15 at h
 simp only [Bool.and_eq_true, decide_eq_true_eq, List.all_eq_true] at h
 exact h
theorem A15.Has.mono {f g : Frag} (h : Le f g) {x : A15} (hx : x.Has f) : x.Has g := by
 rcases hx with e | ⟨b, off, cs, T, fr, h1, h2, h3⟩
 ·exact .inl e
 ·exact .inr ⟨b, off, cs, T, fr, h1, h _ _ h2, h3⟩
def Acts15P (f : Frag) (F : List HP) (n : Nat) (W : W15) : Value → Frag → List HP → Prop := fun v f' A' => ∃ (g : Frag) (wb : Nat), v = .pointer (some ⟨wb, 0, none⟩) ∧ Dj f g ∧ f' = un f g ∧ A' = wH15 f' wb n W :: F
section
variable (f : Frag) (F : List HP)
theorem odd15_fn (n8 : UInt8) : Fn Tryz.prog 73 [.int .u8 (n8.toNat : Nat)] f F (Ret (.int .i64 ((3 + 2 * (n8.toNat % 5) : Nat) : Int)) f F) := by
 have h := n8.toNat_lt
 have hm : ((n8.toNat % 5 : Nat) : Int) ≤ 4 := by omega
 refine Fn.enter Tryz.func73 rfl Tryz.ntmps73 rfl (L := [(0, _)]) ⟨rfl, trivial⟩ fun base => ?_
 refine gN ?_
 refine H.rem (z := ((n8.toNat % 5 : Nat) : Int)) rfl rfl rfl (by decide) (zal (b := 5) rfl) rfl ?_
 refine gW ?_
 refine H.Ac rfl rfl (fun _ h => h) ⟨?_, rfl, rfl⟩
 congr 1
theorem few15_fn {p : Option Addr} {c : Nat} {l : List A15} (hat : ListAt f p 12 A15.vals l) (hl : l.length ≤ 9223372036854775807) : Fn Tryz.prog 42 [.slice p l.length c] f F (Ret (.bool (few15 l)) f F) := by
 by_cases h30 : l.length ≤ 100
 ·refine Fn.enter Tryz.func42 rfl Tryz.ntmps42 rfl (L := [(0, _)]) ⟨rfl, trivial⟩ fun base => ?_
  refine gG ?_
  refine H.Aw (ι := Nat) (fun i => [(3, .int .i64 (i : Int)), (0, .slice p l.length c)]) (fun _ => f) (fun _ => F) (fun i => i ≤ l.length ∧ ∀ j x, j < i → l[j]? = some x → x.q.length ≤ 20) (fun i => l.length - i) 0 ⟨Nat.zero_le _, fun j x hj => by omega⟩ ⟨rfl, rfl, trivial⟩ rfl rfl fun i hi => ?_
  obtain ⟨hi, hb⟩ : i ≤ l.length ∧ ∀ j x, j < i → l[j]? = some x → x.q.length ≤ 20 := hi
  by_cases hlt : i < l.length
  ·have hx : l[i]? = some l[i] := List.getElem?_eq_getElem hlt
   generalize l[i] = x at hx
   obtain ⟨b, off, cs, T, fr, rfl, hfb, hcs⟩ := hat i x hx
   have rd : ∀ A, Rd f A b (off + i * 12) x.vals := fun A => Rd.imm hfb hcs
   refine gJ ?_
   refine H.Ar rfl rfl rfl rfl hlt rfl ?_
   refine gP ?_
   refine H.Ae rfl rfl rfl (Rd1.of (i := 10) (rd _) rfl) rfl ?_
   refine gG ?_
   by_cases hq : x.q.length ≤ 20
   ·skip
    refine gL ?_
    refine H.Am (i + 1) ⟨by show i + 1 ≤ l.length; omega, fun j y hj hy => ?_⟩ (by show l.length - (i + 1) < l.length - i; omega) ⟨rfl, rfl, trivial⟩ rfl rfl
    by_cases e : j = i
    ·subst e; rw [hx] at hy; cases hy; exact hq
    ·exact hb j y (by omega) hy
   ·skip
    refine gJ ?_
    refine H.Ac rfl rfl (fun _ h => h) ⟨?_, rfl, rfl⟩
    have : few15 l = false := by
     unfold few15
     rw [Bool.and_eq_false_iff]
     exact .inr (List.all_eq_false.2 ⟨x, List.mem_of_getElem? hx, by rw [decide_eq_false hq]; decide⟩)
    rw [this]
  ·refine gG ?_
   refine H.Ac rfl rfl (fun _ h => h) ⟨?_, rfl, rfl⟩
   have : few15 l = true := by
    unfold few15
    rw [decide_eq_true h30, Bool.true_and, List.all_eq_true]
    intro x hx
    obtain ⟨j, hj⟩ := List.getElem?_of_mem hx
    have hjl := (List.getElem?_eq_some_iff.1 hj).1
    exact decide_eq_true (hb j x (by omega) hj)
   rw [this]
 ·refine Fn.enter Tryz.func42 rfl Tryz.ntmps42 rfl (L := [(0, _)]) ⟨rfl, trivial⟩ fun base => ?_
  refine gJ ?_
  refine H.Ac rfl rfl (fun _ h => h) ⟨?_, rfl, rfl⟩
  have : few15 l = false := by unfold few15; rw [decide_eq_false h30]; rfl
  rw [this]
theorem nworld_fn {n : Nat} (h : fewZ (n : Int)) : Fn Tryz.prog 72 [.int .i64 (n : Int)] f F (Acts15P f F n (W15.zero n)) := by
 have hn : n ≤ 11 := by have := h.2.1; omega
 refine Fn.enter Tryz.func72 rfl Tryz.ntmps72 rfl (L := [(0, _)]) ⟨rfl, trivial⟩ fun base => ?_
 refine gN ?_
 refine H.Bp rfl rfl rfl (lgnew_fn f _ h) fun v f' A' hr => ?_
 obtain ⟨g, lb, hd, rfl, rfl, rfl⟩ := hr
 refine ge ?_
 refine H.makeS (m := n) (zs := v11 fun _ => 0) rfl rfl rfl rfl rfl rfl rfl (by decide) (by omega) (by omega) rfl fun kb => ?_
 rw [kRow_zero]
 repeat (first | (refine H.Bc (t := 96) (out := w15C kb n none 0 0 lb) rfl rfl rfl (by kernel_rfl) rfl ?_) | ((apply H.Aj); (iterate 3 exact rfl)))
 refine H.box (ls := w15C kb n none 0 0 lb) rfl rfl rfl rfl fun wb => ?_
 refine ga ?_
 refine H.Aa (x := logsH _ _ _) (by repeat constructor) ?_
 refine H.slc0 47 121 ?_
 refine H.Aa (x := row kb _ _) (by repeat constructor) ?_
 refine H.Aa (x := row wb _ _) (by repeat constructor) ?_
 refine H.imp (w15_fold (e := un f g) (n := n) (W := W15.zero n) ⟨kb, lb, none, 0, []⟩ ⟨rfl, fun y hy => by cases hy⟩) ?_
 exact H.Ac rfl rfl (fun _ h => h) ⟨g, wb, rfl, hd, rfl, rfl⟩
set_option maxHeartbeats 1600000 in
theorem acts15_fn {n8 : UInt8} {n : Nat} (hn8 : n = 3 + 2 * (n8.toNat % 5)) {p : Option Addr} {c : Nat} {xs : List A15} (hat : ListAt f p 12 A15.vals xs) (hh : ∀ x ∈ xs, x.Has f ∧ x.q.length ≤ 20) (hl : xs.length ≤ 100) :
  Fn Tryz.prog 44 [.int .u8 (n8.toNat : Nat), .slice p xs.length c] f F (Acts15P f F n (world15 n xs)) := by
 have hn3 : 3 ≤ n ∧ n ≤ 11 := by omega
 have hodd := fun G => odd15_fn f G n8
 rw [← hn8] at hodd
 have hfz : fewZ (n : Int) := ⟨by omega, by omega, by
  rw [show (2 : Int) = ((2 : Nat) : Int) from rfl, zal (a := n) (b := 2) (r := 1) (by omega)]; rfl⟩
 refine Fn.enter Tryz.func44 rfl Tryz.ntmps44 rfl (L := [(0, _), (1, _)]) ⟨rfl, rfl, trivial⟩ fun base => ?_
 refine gN ?_
 refine H.Af rfl rfl rfl (hodd _) ?_
 refine H.Bp rfl rfl rfl (nworld_fn f _ hfz) fun v f' A' hr => ?_
 obtain ⟨g0, wb, rfl, hd0, rfl, rfl⟩ := hr
 refine ga ?_
 refine H.Aw (ι := Nat × Frag) (fun s => [(6, .int .i64 (s.1 : Int)), (1, .slice p xs.length c), (5, .pointer (some ⟨wb, 0, none⟩))]) (fun s => un f s.2)
  (fun s => wH15 (un f s.2) wb n (world15 n (xs.take s.1)) :: F)
  (fun s => s.1 ≤ xs.length ∧ Dj f s.2) (fun s => xs.length - s.1) (0, g0) ⟨Nat.zero_le _, hd0⟩ ⟨rfl, rfl, rfl, trivial⟩ rfl rfl fun s hs => ?_
 obtain ⟨k, G⟩ := s
 obtain ⟨hk, hdj⟩ : k ≤ xs.length ∧ Dj f G := hs
 show H _ _ _ [(6, .int .i64 (k : Int)), _, _] (un f G) (wH15 (un f G) wb n (world15 n (xs.take k)) :: F) _
 by_cases hlt : k < xs.length
 ·obtain ⟨x, hx⟩ : ∃ x, xs[k]? = some x := ⟨_, List.getElem?_eq_getElem hlt⟩
  have hnext : world15 n (xs.take (k + 1)) = (world15 n (xs.take k)).act n x := by rw [zbe hx, world15_snoc]
  obtain ⟨hxa, hxq⟩ := hh x (List.mem_of_getElem? hx)
  obtain ⟨b, off, cs, T, fr, rfl, hfb, hcs⟩ := hat k x hx
  have rd : ∀ A, Rd (un f G) A b (off + k * 12) x.vals := fun A => Rd.imm (Le.un f G b _ hfb) hcs
  have hinv := world15_inv hn3.1 hn3.2 xs k (by omega)
  have hwl := world15_len n xs k
  refine gJ ?_
  refine H.Ar (i := k) rfl rfl rfl rfl hlt rfl ?_
  refine H.Ah (ls := x.vals) rfl rfl rfl (rd _) rfl rfl ?_
  refine H.Bp rfl rfl rfl (do_fn (un f G) _ (Le.refl _) hn3 hinv (by omega) (by omega) (hxa.mono (Le.un f G)) hxq) fun v f' A' hr => ?_
  obtain ⟨g, u, hd, rfl, rfl, rfl⟩ := hr
  refine gW ?_
  refine H.Am (k + 1, un G g) ⟨by show k + 1 ≤ xs.length; omega, Dj.un3' hdj hd⟩ (by show xs.length - (k + 1) < xs.length - k; omega) ⟨rfl, rfl, rfl, trivial⟩ (un_assoc _ _ _) ?_
  show wH15 (un (un f G) g) wb n _ :: F = wH15 (un f (un G g)) wb n (world15 n (xs.take (k + 1))) :: F
  rw [hnext, un_assoc]
 ·have e : k = xs.length := by omega
  subst e
  rw [List.take_length]
  refine gG ?_
  exact H.Ac rfl rfl (fun _ h => h) ⟨G, wb, rfl, hdj, rfl, rfl⟩
end
theorem H.world15 {P : Program} {base : World} {m : Nat} {L : Env} {f : Frag} {A : List HP} {K : Kont} {wb n : Nat} {W : W15}
  (h : ∀ g kb ap ac lb (l : List MV), Dj f g → WAt (un f g) n W.w kb ap l → H P base m L (un f g) (row wb 96 (w15C kb n ap l.length ac lb) :: A) K) : H P base m L f (wH15 f wb n W :: A) K := by
 refine H.unpack fun i hi => ?_
 obtain ⟨kb, lb, ap, ac, l⟩ := i
 show H P base m L f (row wb 96 (w15C kb n ap l.length ac lb) :: row kb 37 (kRow n W.w.kv) :: slc ap l.length ac 47 121 (l.flatMap MV.vals) :: logsH f lb W.l :: A) K
 refine H.freeze (.there _ (.here _ _)) fun g1 hg1 hd1 => ?_
 refine H.freeze (.there _ (.here _ _)) fun g2 hg2 hd2 => ?_
 refine H.Ab (.there _ (.here _ _)) ?_
 have hd3 : Dj f (un g1 g2) := Dj.un3' hd1 hd2
 rw [un_assoc]
 have hle : Le f (un f (un g1 g2)) := Le.un _ _
 have h1 : KAt (un f (un g1 g2)) kb n W.w.kv := by rw [← un_assoc]; exact (KAt.of hg1 hd1).mono (Le.un _ g2)
 have h2 : ListAt (un f (un g1 g2)) ap 121 MV.vals l := by rw [← un_assoc]; exact (zbd MV.len hg2).mono (Le.right hd2)
 exact h (un g1 g2) kb ap ac lb l hd3 ⟨h1, h2, fun y hy => (hi.2 y hy).mono hle, hi.1⟩
section
variable (f : Frag) (F : List HP)
end
theorem next_ok {n : Nat} {pre post : List Msg} {m : Msg} {u : Nat → Int} (hW : WOK n (pre ++ m :: post)) (hu : Knw (pre ++ m :: post) u) (huo : u (orgI m) = (cnt pre (orgI m) : Nat)) (hdu : ∀ i, i < 11 → m.deps i ≤ u i) :
  chk n (uptoS (pre ++ m :: post) u) m = 0 ∧ addS (uptoS (pre ++ m :: post) u) m = uptoS (pre ++ m :: post) (nextU u m) ∧ Knw (pre ++ m :: post) (nextU u m) := by
 have hok := hW.at
 have hpre := hW.pre
 have hnum := hok.num
 have hS : uptoS (pre ++ m :: post) u (orgI m) = strm pre (orgI m) := by
  unfold uptoS
  rw [huo, Int.toNat_natCast, strm_app]
  unfold cnt
  exact List.take_left
 have hall : strm (pre ++ m :: post) (orgI m) = strm pre (orgI m) ++ m :: strm post (orgI m) := by
  rw [strm_app, strm_cons, if_pos rfl]; rfl
 unfold nextU
 refine ⟨?_, ?_, ?_⟩
 ·refine chk_ok hok.fits hok.right ?_ (fun hp i hi => ?_) fun i hi => ?_
  ·rw [hS]; exact hnum
  ·rw [hS] at hp ⊢
   obtain ⟨x, hx, e⟩ := lastD_mem hp
   rw [e]
   unfold strm at hx
   rw [List.mem_filter] at hx
   exact hok.mono x hx.1 (of_decide_eq_true hx.2) i hi
  ·rw [knownS_uptoS hu]; exact hdu i hi
 ·funext i
  unfold addS
  by_cases e : i = orgI m
  ·subst e
   rw [zag, hS]
   show _ = (strm (pre ++ m :: post) (orgI m)).take (updF u (orgI m) (u (orgI m) + 1) (orgI m)).toNat
   rw [zag, hall, huo]
   have e1 : (((cnt pre (orgI m) : Nat) : Int) + 1).toNat = (strm pre (orgI m)).length + 1 := by unfold cnt; omega
   rw [e1, List.take_length_add_append]
   rfl
  ·rw [zak _ _ e]
   show _ = (strm (pre ++ m :: post) i).take (updF u (orgI m) (u (orgI m) + 1) i).toNat
   rw [zak _ _ e]
   rfl
 ·refine ⟨fun i => ?_, fun x hx hxn i hi => ?_⟩
  ·by_cases e : i = orgI m
   ·subst e
    rw [zag]
    have h1 := (hu.le (orgI m)).1
    refine ⟨by omega, ?_⟩
    unfold cnt
    rw [hall, List.length_append, List.length_cons]
    unfold cnt at huo
    omega
   ·rw [zak _ _ e]; exact hu.le i
  ·have hmono : u i ≤ updF u (orgI m) (u (orgI m) + 1) i := by
    by_cases e : i = orgI m
    ·subst e; rw [zag]; omega
    ·rw [zak _ _ e]; exact Int.le_refl _
   by_cases hle : x.number ≤ u (orgI x)
   ·have := hu.closed x hx hle i hi
    omega
   ·have ho : orgI x = orgI m := by
     by_cases e : orgI x = orgI m
     ·exact e
     ·rw [zak _ _ e] at hxn; exact absurd hxn hle
    rw [ho, zag] at hxn
    rw [ho] at hle
    obtain ⟨p, hpx⟩ := strm_mem hx
    have h1 := strm_numA hW hpx
    rw [ho, hall] at hpx
    have hp2 : p = (strm pre (orgI m)).length := by unfold cnt at huo; omega
    subst hp2
    rw [List.getElem?_append_right (Nat.le_refl _), Nat.sub_self] at hpx
    simp at hpx
    subst hpx
    have := hdu i hi
    omega
theorem nextU_o (u : Nat → Int) (m : Msg) : nextU u m (orgI m) = u (orgI m) + 1 := zag _ _ _
theorem nextU_ne (u : Nat → Int) (m : Msg) {i : Nat} (h : i ≠ orgI m) : nextU u m i = u i := zak _ _ h
theorem unk_next {l p1 p2 : List Msg} {m : Msg} {u : Nat → Int} (hnum : ∀ i p x, (strm l i)[p]? = some x → x.number = ((p + 1 : Nat) : Int)) (hl : l = p1 ++ m :: p2) (h1 : u (orgI m) = ((strm p1 (orgI m)).length : Nat)) :
  ∃ A B, unk u l = A ++ m :: B ∧ unk (nextU u m) l = A ++ B ∧ A = unk u p1 ∧ B = unk u p2 := by
 subst hl
 have hall : strm (p1 ++ m :: p2) (orgI m) = strm p1 (orgI m) ++ m :: strm p2 (orgI m) := by
  rw [strm_app, strm_cons, if_pos rfl]; rfl
 have hm : m.number = ((strm p1 (orgI m)).length + 1 : Nat) := hnum (orgI m) _ m (by rw [hall, List.getElem?_append_right (Nat.le_refl _), Nat.sub_self]; rfl)
 have e1 : unk (nextU u m) p1 = unk u p1 := List.filter_congr fun x hx => by
  by_cases e : orgI x = orgI m
  ·rw [e, nextU_o]
   obtain ⟨p, hp⟩ := strm_mem hx
   rw [e] at hp
   have hlt := (List.getElem?_eq_some_iff.1 hp).1
   have h2 := hnum (orgI m) p x (by rw [hall, List.getElem?_append_left hlt]; exact hp)
   rw [decide_eq_false (by omega), decide_eq_false (by omega)]
  ·rw [nextU_ne _ _ e]
 have e2 : unk (nextU u m) p2 = unk u p2 := List.filter_congr fun x hx => by
  by_cases e : orgI x = orgI m
  ·rw [e, nextU_o]
   obtain ⟨p, hp⟩ := strm_mem hx
   rw [e] at hp
   have h2 := hnum (orgI m) ((strm p1 (orgI m)).length + 1 + p) x (by
    rw [hall, List.getElem?_append_right (by omega), show (strm p1 (orgI m)).length + 1 + p - (strm p1 (orgI m)).length = p + 1 by omega, List.getElem?_cons_succ]
    exact hp)
   rw [decide_eq_true (by omega), decide_eq_true (by omega)]
  ·rw [nextU_ne _ _ e]
 refine ⟨unk u p1, unk u p2, ?_, ?_, rfl, rfl⟩
 ·unfold unk
  rw [List.filter_append, List.filter_cons, if_pos (decide_eq_true (by omega))]
 ·rw [← e1, ← e2]
  unfold unk
  rw [List.filter_append, List.filter_cons, if_neg (by rw [decide_eq_false (by rw [nextU_o]; omega)]; decide)]
structure KL (n : Nat) (all : List Msg) (u : Nat → Int) (l : List Msg) : Prop where
 kn : Knw all u
 s : strm l = uptoS all u
 ok : LOK n l
 len : l.length + (unk u all).length = all.length
theorem uptoS_mem {all l : List Msg} {u : Nat → Int} (h : strm l = uptoS all u) {x : Msg} (hx : x ∈ l) : x ∈ all := by
 have h1 : x ∈ strm l (orgI x) := by unfold strm; rw [List.mem_filter]; exact ⟨hx, by simp⟩
 rw [h] at h1
 have h2 := List.mem_of_mem_take h1
 unfold strm at h2
 exact (List.mem_filter.1 h2).1
theorem KL.take {n : Nat} {all li lj : List Msg} {u v : Nat → Int} {m : Msg} {rest : List Msg} (hW : WOK n all) (hi : KL n all v li) (hj : KL n all u lj) (h : unk u li = m :: rest) :
  chk n (strm lj) m = 0 ∧ KL n all (nextU u m) (lj ++ [m]) ∧ unk (nextU u m) li = rest ∧ m ∈ all ∧ (unk (nextU u m) all).length + 1 = (unk u all).length := by
 obtain ⟨p1, p2, hl, hp, hm, hr⟩ := filter_cons_split h
 have hm : u (orgI m) < m.number := of_decide_eq_true hm
 have hnl := fun i p x => hi.ok.numA (i := i) (p := p) (x := x)
 have hml : m ∈ li := by rw [hl]; simp
 have hmall := uptoS_mem hi.s hml
 have hc : chk n (strm p1) m = 0 := by
  have := hi.ok p1.length m (by rw [hl, List.getElem?_append_right (Nat.le_refl _)]; simp)
  rwa [hl, List.take_left] at this
 obtain ⟨_, _, c3, _, c5⟩ := chk_zero hc
 have hp1 : ∀ i, ((strm p1 i).length : Int) ≤ u i := fun i => by
  rcases Nat.eq_zero_or_pos (strm p1 i).length with e | e
  ·rw [e]; exact (hj.kn.le i).1
  ·obtain ⟨x, hx⟩ : ∃ x, (strm p1 i)[(strm p1 i).length - 1]? = some x := ⟨_, List.getElem?_eq_getElem (by omega)⟩
   obtain ⟨h2, h3⟩ := strm_org hx
   have h1 := hnl i ((strm p1 i).length - 1) x (by rw [hl, strm_app, List.getElem?_append_left (by omega)]; exact hx)
   have h4 := hp x h2
   simp only [decide_eq_false_iff_not] at h4
   rw [h3] at h4
   omega
 have huo : u (orgI m) = ((strm p1 (orgI m)).length : Nat) := by have := hp1 (orgI m); omega
 have hdu : ∀ i, i < 11 → m.deps i ≤ u i := fun i hi => by
  have h1 := c5 i hi
  have h2 := hp1 i
  unfold knownS at h1
  omega
 obtain ⟨pre, post, he⟩ := List.append_of_mem hmall
 have hWp : WOK n (pre ++ m :: post) := by rw [← he]; exact hW
 have hnum := hWp.at.num
 have huc : u (orgI m) = (cnt pre (orgI m) : Nat) := by omega
 obtain ⟨k1, k2, k3⟩ := next_ok (u := u) hWp (by rw [← he]; exact hj.kn) huc hdu
 rw [← he] at k1 k2 k3
 have hck : chk n (strm lj) m = 0 := by rw [hj.s]; exact k1
 obtain ⟨A, B, a1, a2, a3, a4⟩ := unk_next (fun i p x hx => strm_numA hW hx) he huc
 have hlen : (unk (nextU u m) all).length + 1 = (unk u all).length := by
  rw [a1, a2, List.length_append, List.length_append, List.length_cons]
  omega
 obtain ⟨A', B', b1, b2, b3, b4⟩ := unk_next hnl hl huo
 have hA' : A' = [] := by
  rw [b3]; unfold unk
  rw [List.filter_eq_nil_iff]
  intro x hx
  rw [hp x hx]; decide
 refine ⟨hck, ⟨k3, by rw [strm_snoc, hj.s]; exact k2, hj.ok.snoc hck, by rw [List.length_append]; have := hj.len; show lj.length + 1 + _ = _; omega⟩, ?_, hmall, hlen⟩
 rw [b2, hA', List.nil_append, b4, hr]
 rfl
theorem afterU_le {u : Nat → Int} : ∀ (l : List Msg) (u : Nat → Int) (i : Nat), u i ≤ afterU u l i
 | [], u, i => Int.le_refl _
 | m :: l, u, i => by
  have h := afterU_le (u := u) l (nextU u m) i
  have h2 : u i ≤ nextU u m i := by
   by_cases e : i = orgI m
   ·rw [e, nextU_o]; omega
   ·rw [nextU_ne _ _ e]; exact Int.le_refl _
  exact Int.le_trans h2 h
theorem KL.mid {n : Nat} {all li : List Msg} {v : Nat → Int} (hW : WOK n all) (hi : KL n all v li) : ∀ (a b : List Msg) {u : Nat → Int} {lj : List Msg}, KL n all u lj → unk u li = a ++ b →
  KL n all (afterU u a) (lj ++ a) ∧ unk (afterU u a) li = b ∧ (unk (afterU u a) all).length + a.length = (unk u all).length
 | [], b, u, lj, hj, h => ⟨by rw [List.append_nil]; exact hj, h, rfl⟩
 | m :: a, b, u, lj, hj, h => by
  obtain ⟨_, h2, h3, _, h5⟩ := hi.take hW hj (rest := a ++ b) h
  obtain ⟨i1, i2, i3⟩ := KL.mid hW hi a b h2 h3
  refine ⟨by rw [List.append_assoc] at i1; exact i1, i2, ?_⟩
  show (unk (afterU (nextU u m) a) all).length + (a.length + 1) = _
  omega
theorem KL.none {n : Nat} {all li : List Msg} {u v : Nat → Int} {i : Nat} (hi : KL n all v li) (hv : v i = (cnt all i : Nat)) (hu : Knw all u) (h : unk u li = []) (hW : WOK n all) : u i = (cnt all i : Nat) := by
 have h1 := hu.le i
 rcases Int.lt_or_le (u i) (cnt all i : Nat) with hlt | hge
 ·exfalso
  obtain ⟨x, hx⟩ : ∃ x, (strm all i)[(u i).toNat]? = some x := ⟨_, List.getElem?_eq_getElem (by unfold cnt at hlt; omega)⟩
  obtain ⟨h2, h3⟩ := strm_org hx
  have h4 := strm_numA hW hx
  have hs : strm li i = strm all i := by
   rw [hi.s]
   show (strm all i).take (v i).toNat = _
   rw [hv]
   exact List.take_of_length_le (by unfold cnt; omega)
  have h5 : x ∈ li := by
   have : x ∈ strm li i := by rw [hs]; exact List.mem_of_getElem? hx
   unfold strm at this
   exact (List.mem_filter.1 this).1
  unfold unk at h
  rw [List.filter_eq_nil_iff] at h
  have h6 := h x h5
  rw [decide_eq_true_eq, h3] at h6
  omega
 ·omega
def Pg (all : List Msg) (u : Nat → Int) (rd i : Nat) : Prop := (unk u all).length + (rd + 1) ≤ all.length ∨ (unk u all).length = 0 ∨ ((unk u all).length + rd ≤ all.length ∧ ∀ o, o < i → u o = (cnt all o : Nat))
theorem Pg.begin {all : List Msg} {u : Nat → Int} {rd : Nat} (h : (unk u all).length + rd ≤ all.length ∨ (unk u all).length = 0) : Pg all u rd 0 := by
 rcases h with h | h
 ·exact .inr (.inr ⟨h, fun o ho => by omega⟩)
 ·exact .inr (.inl h)
theorem Pg.done {n : Nat} {all : List Msg} {u : Nat → Int} {rd : Nat} (hW : WOK n all) (h : Pg all u rd n) : (unk u all).length + (rd + 1) ≤ all.length ∨ (unk u all).length = 0 := by
 rcases h with h | h | ⟨_, h⟩
 ·exact .inl h
 ·exact .inr h
 ·refine .inr ?_
  have : unk u all = [] := by
   unfold unk
   rw [List.filter_eq_nil_iff]
   intro x hx
   obtain ⟨p, hp⟩ := strm_mem hx
   have h1 := strm_numA hW hp
   have h2 := (List.getElem?_eq_some_iff.1 hp).1
   obtain ⟨j, hj⟩ := List.getElem?_of_mem hx
   have h3 := (hW j x hj).org
   have h4 := h (orgI x) (by unfold orgI; omega)
   rw [decide_eq_true_eq, h4]
   unfold cnt
   omega
  rw [this]; rfl
theorem Pg.self {all : List Msg} {u : Nat → Int} {rd i : Nat} (h : Pg all u rd i) (hi : u i = (cnt all i : Nat)) : Pg all u rd (i + 1) := by
 rcases h with h | h | ⟨h1, h2⟩
 ·exact .inl h
 ·exact .inr (.inl h)
 ·refine .inr (.inr ⟨h1, fun o ho => ?_⟩)
  by_cases e : o = i
  ·rw [e]; exact hi
  ·exact h2 o (by omega)
theorem Pg.step {n : Nat} {all li lj : List Msg} {u v : Nat → Int} {rd i most : Nat} (hW : WOK n all) (hi : KL n all v li) (hv : v i = (cnt all i : Nat)) (hj : KL n all u lj) (hm : 1 ≤ most) (h : Pg all u rd i) :
  Pg all (afterU u ((unk u li).take most)) rd (i + 1) := by
 obtain ⟨k1, _, k3⟩ := KL.mid hW hi ((unk u li).take most) ((unk u li).drop most) hj (List.take_append_drop ..).symm
 cases e : unk u li with
 | nil =>
  rw [List.take_nil]
  exact h.self (hi.none hv hj.kn e hW)
 | cons x l =>
  rw [e] at k3
  have hl : 1 ≤ ((x :: l).take most).length := by rw [List.length_take, List.length_cons]; omega
  rcases h with h | h | ⟨h, _⟩
  ·exact .inl (by omega)
  ·exact .inr (.inl (by omega))
  ·exact .inl (by omega)
theorem own_after {all : List Msg} {u : Nat → Int} {l : List Msg} {i : Nat} (hk : Knw all (afterU u l)) (h : u i = (cnt all i : Nat)) : afterU u l i = (cnt all i : Nat) := by
 have h1 := afterU_le (u := u) l u i
 have h2 := (hk.le i).2
 omega
section
variable (f : Frag) (F : List HP)
end
end Go.Proofs.YtoigpgdmignaoaaGreatDoor
