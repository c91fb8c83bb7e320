/- Parts of the proof, one behind the other, each under its own heading. No conditions. -/
import Derived.Test.YtoigpgdmignaoaaGreatDoorZ06
set_option linter.unusedSectionVars false
set_option linter.unusedSimpArgs false
set_option linter.unusedVariables false
/- Layer 14, the document's past, for those that stand on it. No condition. -/
namespace Go.Proofs.YtoigpgdmignaoaaGreatDoor
open Go
def flatV {α : Type} (g : α → List Value) (l : List α) : List Value := (l.map g).flatten
theorem flatV_length {α : Type} {g : α → List Value} {sz : Nat} (hg : ∀ x, (g x).length = sz) (l : List α) : (flatV g l).length = l.length * sz := by
 induction l with
 | nil => simp [flatV]
 | cons x r ih => simp only [flatV, List.map_cons, List.flatten_cons, List.length_append, hg, List.length_cons] at ih ⊢; rw [ih, Nat.add_mul]; omega
theorem flatV_get {α : Type} {g : α → List Value} {sz : Nat} (hg : ∀ x, (g x).length = sz) : ∀ (l : List α) (i j : Nat) (x : α), l[i]? = some x → j < sz → (flatV g l)[i * sz + j]? = (g x)[j]?
 | [], i, j, x, h, _ => by simp at h
 | y :: r, 0, j, x, h, hj => by
  simp at h; subst h
  simp only [flatV, List.map_cons, List.flatten_cons, Nat.zero_mul, Nat.zero_add]
  exact List.getElem?_append_left (by rw [hg]; exact hj)
 | y :: r, i + 1, j, x, h, hj => by
  have ih := flatV_get hg r i j x (by simpa using h) hj
  simp only [flatV, List.map_cons, List.flatten_cons] at ih ⊢
  rw [List.getElem?_append_right (by rw [hg, Nat.add_mul]; omega), hg, ← ih]
  congr 1
  rw [Nat.add_mul]; omega
theorem flatV_append {α : Type} (g : α → List Value) (l r : List α) : flatV g (l ++ r) = flatV g l ++ flatV g r := by simp [flatV]
def voteV (p : Int × Int) : List Value := [.int .u64 p.1, .int .i64 p.2]
theorem voteV_len (p : Int × Int) : (voteV p).length = 2 := rfl
def pstL (b eb ec : Nat) (s : PM) : List HP := [row b 231 [.int .u64 s.g, .slice (some ⟨eb, 0, none⟩) (s.init.length + 1) ec],
 slc (some ⟨eb, 0, none⟩) (s.init.length + 1) ec 228 2 (flatV voteV s.all)]
def pstH (b : Nat) (s : PM) : HP := fun h => ∃ i : Nat × Nat, stars (pstL b i.1 i.2 s) h
theorem zao {b eb ec : Nat} {s : PM} {F : List HP} : ∀ x, stars (row b 231 [.int .u64 s.g, .slice (some ⟨eb, 0, none⟩) (s.init.length + 1) ec] ::
 slc (some ⟨eb, 0, none⟩) (s.init.length + 1) ec 228 2 (flatV voteV s.all) :: F) x → stars (pstH b s :: F) x :=
 fold_stars (B := [_, _]) fun x hx => ⟨(eb, ec), hx⟩
theorem pstH_open {fid : FuncId} {args : List Value} {f : Frag} {R : Value → Frag → List HP → Prop} {b : Nat} {s : PM} {F : List HP}
  (k : ∀ eb ec, Fn Tryz.prog fid args f (row b 231 [.int .u64 s.g, .slice (some ⟨eb, 0, none⟩) (s.init.length + 1) ec] ::
   slc (some ⟨eb, 0, none⟩) (s.init.length + 1) ec 228 2 (flatV voteV s.all) :: F) R) : Fn Tryz.prog fid args f (pstH b s :: F) R :=
 Fn.unfold (fun _ h => h) fun ⟨eb, ec⟩ => k eb ec
theorem pstH_openH {base : World} {n : Nat} {L : Env} {K : Kont} {f : Frag} {b : Nat} {s : PM} {F : List HP}
  (k : ∀ eb ec, H Tryz.prog base n L f (row b 231 [.int .u64 s.g, .slice (some ⟨eb, 0, none⟩) (s.init.length + 1) ec] ::
   slc (some ⟨eb, 0, none⟩) (s.init.length + 1) ec 228 2 (flatV voteV s.all) :: F) K) : H Tryz.prog base n L f (pstH b s :: F) K :=
 H.unfold (fun _ h => h) fun ⟨eb, ec⟩ => k eb ec
theorem all_last (s : PM) : s.all[s.init.length]? = some (s.lv, s.ln) := by simp [PM.all]
theorem votes_lv (s : PM) : (flatV voteV s.all)[s.init.length * 2 + 0]? = some (.int .u64 s.lv) := by rw [flatV_get voteV_len _ _ _ _ (all_last s) (by decide)]; rfl
theorem votes_ln (s : PM) : (flatV voteV s.all)[s.init.length * 2 + 1]? = some (.int .i64 s.ln) := by rw [flatV_get voteV_len _ _ _ _ (all_last s) (by decide)]; rfl
theorem all_len (s : PM) : s.all.length = s.init.length + 1 := by simp [PM.all]
section
variable (f : Frag) (F : List HP) (b : Nat) (s : PM)
theorem Fn.pstOpen {fid : FuncId} {args : List Value} {v : Value} (h : ∀ eb ec, Fn Tryz.prog fid args f (pstL b eb ec s ++ F) (Ret v f (pstL b eb ec s ++ F))) : Fn Tryz.prog fid args f (pstH b s :: F) (Ret v f (pstH b s :: F)) := by
 refine Fn.unfold (fun _ h => h) fun ⟨eb, ec⟩ => ?_
 intro base w hs
 refine (h eb ec base w hs).mono ?_
 rintro e w' ⟨u, f', A', he, ⟨rfl, rfl, rfl⟩, s'⟩
 exact ⟨_, _, _, he, ⟨rfl, rfl, rfl⟩, s'.imp zao⟩
theorem pst_last_o (eb ec : Nat) (hn : s.init.length ≤ 1000000) : Fn Tryz.prog 176 [.pointer (some ⟨b, 0, none⟩)] f (pstL b eb ec s ++ F) (Ret (.int .u64 s.lv) f (pstL b eb ec s ++ F)) := by
 show Fn _ _ _ f (row _ _ _ :: slc _ _ _ _ _ _ :: F) _
 refine Fn.enter Tryz.func176 rfl Tryz.ntmps176 rfl (L := [(0, _)]) ⟨rfl, trivial⟩ fun base => ?_
 refine gO ?_
 refine H.Bg (by kernel_rfl) (by decide +kernel) (by repeat (first | exact zab | refine zaa ?_ | refine zac ?_ | refine zae ?_)) ?_
 refine gW ?_
 refine HQ.Cf rfl rfl rfl rfl (by omega) rfl ?_
 refine gE ?_
 refine HQ.Af rfl rfl rfl (.at0 (Rd.ofSlc (by repeat constructor) (by omega)) (votes_lv s)) rfl ?_
 refine gS ?_
 refine gf ?_
 exact H.Ac rfl rfl (fun _ h => h) ⟨rfl, rfl, rfl⟩
theorem pst_new : Fn Tryz.prog 114 [] f F (fun v f' A' => ∃ b, v = .pointer (some ⟨b, 0, none⟩) ∧ f' = f ∧ A' = pstH b PM.new :: F) := by
 refine Fn.enter Tryz.func114 rfl Tryz.ntmps114 rfl (L := []) trivial fun base => ?_
 refine gH ?_
 refine H.Bb rfl rfl rfl rfl (by decide) (by decide) rfl rfl fun eb => ?_
 refine gR ?_
 refine H.box rfl rfl rfl rfl fun b => ?_
 refine gf ?_
 refine H.Ac rfl rfl (A' := pstH b PM.new :: F) ?_ ⟨b, rfl, rfl, rfl⟩
 intro x hx
 refine zao (eb := eb) (ec := 1) x ?_
 refine keep_stars (fun y hy => ?_) x hx
 obtain ⟨m1, m2, d, e, a, r⟩ := hy
 exact ⟨m1, m2, d, e, row_slc (by rfl) (by decide) a, r⟩
theorem pst_open_o (eb ec : Nat) (hn : s.init.length ≤ 1000000) (v : Int) : Fn Tryz.prog 177 [.pointer (some ⟨b, 0, none⟩), .int .u64 v] f (pstL b eb ec s ++ F) (Ret (.bool (s.isOpen v)) f (pstL b eb ec s ++ F)) := by
 show Fn _ _ _ f (row _ _ _ :: slc _ _ _ _ _ _ :: F) _
 by_cases hv : v = s.g
 ·refine Fn.enter Tryz.func177 rfl Tryz.ntmps177 rfl (L := [(0, _), (1, _)]) ⟨rfl, rfl, trivial⟩ fun base => ?_
  refine gM ?_
  refine H.Bo rfl rfl rfl (pst_last_o f F b s eb ec hn) fun _ _ _ hR => ?_
  obtain ⟨rfl, rfl, rfl⟩ := hR
  refine gT ?_
  exact H.Ac rfl rfl (fun _ h => h) ⟨by simp [PM.isOpen, hv], rfl, rfl⟩
 ·refine Fn.enter Tryz.func177 rfl Tryz.ntmps177 rfl (L := [(0, _), (1, _)]) ⟨rfl, rfl, trivial⟩ fun base => ?_
  refine ga ?_
  exact H.Ac rfl rfl (fun _ h => h) ⟨by simp [PM.isOpen, hv], rfl, rfl⟩
theorem pst_open (hn : s.init.length ≤ 1000000) (v : Int) : Fn Tryz.prog 177 [.pointer (some ⟨b, 0, none⟩), .int .u64 v] f (pstH b s :: F) (Ret (.bool (s.isOpen v)) f (pstH b s :: F)) :=
 Fn.pstOpen f F b s fun eb ec => pst_open_o f F b s eb ec hn v
theorem pst_change (v : Int) : Fn Tryz.prog 151 [.pointer (some ⟨b, 0, none⟩), .int .u64 v] f (pstH b s :: F) (Ret (.bool (s.changeOk v)) f (pstH b (s.change v) :: F)) := by
 refine pstH_open fun eb ec => ?_
 by_cases h1 : v ≤ s.g
 ·refine Fn.enter Tryz.func151 rfl Tryz.ntmps151 rfl (L := [(0, _), (1, _)]) ⟨rfl, rfl, trivial⟩ fun base => ?_
  refine gU ?_
  have e : s.changeOk v = false := by simp [PM.changeOk]; omega
  exact H.Ac rfl rfl zao ⟨by rw [e], rfl, by simp [PM.change, e]⟩
 ·by_cases h2 : 1073741824 ≤ v
  ·refine Fn.enter Tryz.func151 rfl Tryz.ntmps151 rfl (L := [(0, _), (1, _)]) ⟨rfl, rfl, trivial⟩ fun base => ?_
   refine gK ?_
   have e : s.changeOk v = false := by simp [PM.changeOk]; omega
   exact H.Ac rfl rfl zao ⟨by rw [e], rfl, by simp [PM.change, e]⟩
  ·refine Fn.enter Tryz.func151 rfl Tryz.ntmps151 rfl (L := [(0, _), (1, _)]) ⟨rfl, rfl, trivial⟩ fun base => ?_
   refine gZ ?_
   have e : s.changeOk v = true := by simp [PM.changeOk]; omega
   refine H.Ac rfl rfl (A' := pstH b (s.change v) :: F) ?_ ⟨by rw [e], rfl, rfl⟩
   rw [show s.change v = { s with g := v } by simp [PM.change, e]]
   exact zao (s := { s with g := v })
theorem votes_bump (s : PM) : SetV (flatV voteV s.all) (s.init.length * 2 + 1) (.int .i64 (s.ln + 1)) (flatV voteV ({ s with ln := s.ln + 1 } : PM).all) := by
 have h : s.init.length * 2 + 1 < (flatV voteV s.all).length := by rw [flatV_length voteV_len, all_len]; omega
 have := SetV.mk (.int .i64 (s.ln + 1)) h
 have e : (flatV voteV s.all).set (s.init.length * 2 + 1) (.int .i64 (s.ln + 1)) = flatV voteV ({ s with ln := s.ln + 1 } : PM).all := by
  simp only [PM.all, flatV_append]
  have h2 : (flatV voteV s.init).length = s.init.length * 2 := flatV_length voteV_len _
  rw [List.set_append_right _ _ (by omega), h2]
  have : s.init.length * 2 + 1 - s.init.length * 2 = 1 := by omega
  rw [this]
  rfl
 rwa [e] at this
theorem pst_prepare {B : Int} (hw : PM.WF s B) (hB : B ≤ 9000000000000000000) (hn : s.init.length ≤ 1000000) (v : Int) : Fn Tryz.prog 157 [.pointer (some ⟨b, 0, none⟩), .int .u64 v] f (pstH b s :: F) (Ret (.bool (s.isOpen v)) f (pstH b (s.prepare v) :: F)) := by
 have hl := hw.last
 cases ho : s.isOpen v with
 | false =>
  refine Fn.enter Tryz.func157 rfl Tryz.ntmps157 rfl (L := [(0, _), (1, _)]) ⟨rfl, rfl, trivial⟩ fun base => ?_
  refine gO ?_
  refine H.Bo rfl rfl rfl (pst_open f F b s hn v) fun _ _ _ hR => ?_
  obtain ⟨rfl, rfl, rfl⟩ := hR
  rw [ho]
  refine gc ?_
  exact H.Ac rfl rfl (fun _ h => h) ⟨rfl, rfl, by simp [PM.prepare, ho]⟩
 | true =>
  refine Fn.enter Tryz.func157 rfl Tryz.ntmps157 rfl (L := [(0, _), (1, _)]) ⟨rfl, rfl, trivial⟩ fun base => ?_
  refine gO ?_
  refine H.Bo rfl rfl rfl (pst_open f F b s hn v) fun _ _ _ hR => ?_
  obtain ⟨rfl, rfl, rfl⟩ := hR
  rw [ho]
  refine ga ?_
  refine pstH_openH fun eb ec => ?_
  refine H.drawT 16 (by kernel_rfl) (by decide +kernel) ?_
  refine gJ ?_
  refine HS.Cf rfl rfl rfl rfl (by omega) rfl ?_
  refine gJ ?_
  refine HS.Af rfl rfl rfl (.at0 (Rd.ofSlc (by repeat constructor) (by omega)) (votes_ln s)) rfl ?_
  refine gJ ?_
  refine HS.Cf rfl rfl rfl rfl (by omega) rfl ?_
  refine gJ ?_
  refine H.store_slc rfl rfl rfl rfl (by repeat constructor) (votes_bump s) ?_
  refine gf ?_
  have hf := zao (b := b) (eb := eb) (ec := ec) (s := { s with ln := s.ln + 1 }) (F := F)
  rw [show s.prepare v = { s with ln := s.ln + 1 } by simp [PM.prepare, ho]]
  exact H.Ac rfl rfl hf ⟨rfl, rfl, rfl⟩
end
section
variable (f : Frag) (F : List HP) (b : Nat) (s : PM)
theorem pst_commit {B : Int} (hw : PM.WF s B) (hB : B ≤ 9000000000000000000) (hn : s.init.length ≤ 1000000) (v k most : Int) (hk : 0 ≤ k ∧ k ≤ 18446744073709551615) (hm : -9223372036854775808 ≤ most ∧ most ≤ 9223372036854775807) :
  Fn Tryz.prog 158 [.pointer (some ⟨b, 0, none⟩), .int .u64 v, .int .u64 k, .int .i64 most] f (pstH b s :: F) (Ret (.bool (s.commitOk v k most)) f (pstH b (s.commit v k most) :: F)) := by
 have hl := hw.last
 refine Fn.unfold (fun _ h => h) fun ⟨eb, ec⟩ => ?_
 show Fn _ _ _ f (row _ _ _ :: slc _ _ _ _ _ _ :: F) _
 cases ho : s.isOpen v with
 | false =>
  have e : s.commitOk v k most = false := by simp [PM.isOpen] at ho; simp [PM.commitOk]; omega
  refine Fn.enter Tryz.func158 rfl Tryz.ntmps158 rfl (L := [(0, _), (1, _), (2, _), (3, _)]) ⟨rfl, rfl, rfl, rfl, trivial⟩ fun base => ?_
  refine gO ?_
  refine H.draw ((0, false) :: (1, false) :: (2, true) :: qt 30 3) (by kernel_rfl) (by decide +kernel) (by repeat (first | exact zab | refine zaa ?_ | refine zac ?_ | refine zae ?_)) (S := [_, _]) rfl ?_
  refine gD ?_
  refine HQ.event ?_
  refine H.Bo rfl rfl rfl (pst_open_o f F b s eb ec hn v) fun _ _ _ hR => ?_
  obtain ⟨rfl, rfl, rfl⟩ := hR
  rw [ho]
  refine gC ?_
  refine H.back (A := [_, _]) rfl ?_
  refine ge ?_
  refine gG ?_
  exact H.Ac rfl rfl zao ⟨by rw [e], rfl, by simp [PM.commit, e]⟩
 | true =>
  have hopen : v = s.g ∧ v = s.lv := by simpa [PM.isOpen] using ho
  by_cases h1 : k = s.ln + 1
  ·by_cases h2 : most < 0
   ·have e : s.commitOk v k most = false := by simp [PM.commitOk]; omega
    clear hopen
    refine Fn.enter Tryz.func158 rfl Tryz.ntmps158 rfl (L := [(0, _), (1, _), (2, _), (3, _)]) ⟨rfl, rfl, rfl, rfl, trivial⟩ fun base => ?_
    refine gO ?_
    refine H.draw ((0, false) :: (1, false) :: (2, true) :: qt 30 3) (by kernel_rfl) (by decide +kernel) (by repeat (first | exact zab | refine zaa ?_ | refine zac ?_ | refine zae ?_)) (S := [_, _]) rfl ?_
    refine gD ?_
    refine HQ.event ?_
    refine H.Bo rfl rfl rfl (pst_open_o f F b s eb ec hn v) fun _ _ _ hR => ?_
    obtain ⟨rfl, rfl, rfl⟩ := hR
    rw [ho]
    refine gC ?_
    refine H.back (A := [_, _]) rfl ?_
    refine ge ?_
    refine HQ.Cf rfl rfl rfl rfl (by omega) rfl ?_
    refine gE ?_
    refine HQ.Af rfl rfl rfl (.at0 (Rd.ofSlc (by repeat constructor) (by omega)) (votes_ln s)) rfl ?_
    refine ge ?_
    refine gG ?_
    exact H.Ac rfl rfl zao ⟨by rw [e], rfl, by simp [PM.commit, e]⟩
   ·by_cases h3 : most < k
    ·have e : s.commitOk v k most = false := by simp [PM.commitOk]; omega
     clear hopen
     refine Fn.enter Tryz.func158 rfl Tryz.ntmps158 rfl (L := [(0, _), (1, _), (2, _), (3, _)]) ⟨rfl, rfl, rfl, rfl, trivial⟩ fun base => ?_
     refine gO ?_
     refine H.draw ((0, false) :: (1, false) :: (2, true) :: qt 30 3) (by kernel_rfl) (by decide +kernel) (by repeat (first | exact zab | refine zaa ?_ | refine zac ?_ | refine zae ?_)) (S := [_, _]) rfl ?_
     refine gD ?_
     refine HQ.event ?_
     refine H.Bo rfl rfl rfl (pst_open_o f F b s eb ec hn v) fun _ _ _ hR => ?_
     obtain ⟨rfl, rfl, rfl⟩ := hR
     rw [ho]
     refine gC ?_
     refine H.back (A := [_, _]) rfl ?_
     refine ge ?_
     refine HQ.Cf rfl rfl rfl rfl (by omega) rfl ?_
     refine gE ?_
     refine HQ.Af rfl rfl rfl (.at0 (Rd.ofSlc (by repeat constructor) (by omega)) (votes_ln s)) rfl ?_
     refine ge ?_
     refine gL ?_
     exact H.Ac rfl rfl zao ⟨by rw [e], rfl, by simp [PM.commit, e]⟩
    ·have e : s.commitOk v k most = true := by simp [PM.commitOk]; omega
     clear hopen
     refine Fn.enter Tryz.func158 rfl Tryz.ntmps158 rfl (L := [(0, _), (1, _), (2, _), (3, _)]) ⟨rfl, rfl, rfl, rfl, trivial⟩ fun base => ?_
     refine gO ?_
     refine H.draw ((0, false) :: (1, false) :: (2, true) :: qt 30 3) (by kernel_rfl) (by decide +kernel) (by repeat (first | exact zab | refine zaa ?_ | refine zac ?_ | refine zae ?_)) (S := [_, _]) rfl ?_
     refine gD ?_
     refine HQ.event ?_
     refine H.Bo rfl rfl rfl (pst_open_o f F b s eb ec hn v) fun _ _ _ hR => ?_
     obtain ⟨rfl, rfl, rfl⟩ := hR
     rw [ho]
     refine gC ?_
     refine H.back (A := [_, _]) rfl ?_
     refine ge ?_
     refine HQ.Cf rfl rfl rfl rfl (by omega) rfl ?_
     refine gE ?_
     refine HQ.Af rfl rfl rfl (.at0 (Rd.ofSlc (by repeat constructor) (by omega)) (votes_ln s)) rfl ?_
     refine ge ?_
     refine gT ?_
     refine H.drawT 16 (by kernel_rfl) (by decide +kernel) ?_
     refine gJ ?_
     refine HS.Cf rfl rfl rfl rfl (by omega) rfl ?_
     refine gJ ?_
     refine HS.Af rfl rfl rfl (.at0 (Rd.ofSlc (by repeat constructor) (by omega)) (votes_ln s)) rfl ?_
     refine gJ ?_
     refine HS.Cf rfl rfl rfl rfl (by omega) rfl ?_
     refine gJ ?_
     refine H.store_slc rfl rfl rfl rfl (by repeat constructor) (votes_bump s) ?_
     refine gf ?_
     have hf := zao (b := b) (eb := eb) (ec := ec) (s := { s with ln := s.ln + 1 }) (F := F)
     rw [show s.commit v k most = { s with ln := s.ln + 1 } by simp [PM.commit, e]]
     exact H.Ac rfl rfl hf ⟨by rw [e], rfl, rfl⟩
  ·have e : s.commitOk v k most = false := by simp [PM.commitOk]; omega
   clear hopen
   refine Fn.enter Tryz.func158 rfl Tryz.ntmps158 rfl (L := [(0, _), (1, _), (2, _), (3, _)]) ⟨rfl, rfl, rfl, rfl, trivial⟩ fun base => ?_
   refine gO ?_
   refine H.draw ((0, false) :: (1, false) :: (2, true) :: qt 30 3) (by kernel_rfl) (by decide +kernel) (by repeat (first | exact zab | refine zaa ?_ | refine zac ?_ | refine zae ?_)) (S := [_, _]) rfl ?_
   refine gD ?_
   refine HQ.event ?_
   refine H.Bo rfl rfl rfl (pst_open_o f F b s eb ec hn v) fun _ _ _ hR => ?_
   obtain ⟨rfl, rfl, rfl⟩ := hR
   rw [ho]
   refine gC ?_
   refine H.back (A := [_, _]) rfl ?_
   refine ge ?_
   refine HQ.Cf rfl rfl rfl rfl (by omega) rfl ?_
   refine gE ?_
   refine HQ.Af rfl rfl rfl (.at0 (Rd.ofSlc (by repeat constructor) (by omega)) (votes_ln s)) rfl ?_
   refine ge ?_
   refine gG ?_
   exact H.Ac rfl rfl zao ⟨by rw [e], rfl, by simp [PM.commit, e]⟩
theorem pst_enter {B : Int} (hw : PM.WF s B) (hn : s.init.length ≤ 100000) (v k : Int) :
  Fn Tryz.prog 153 [.pointer (some ⟨b, 0, none⟩), .int .u64 v, .int .i64 k] f (pstH b s :: F) (Ret (.bool (s.enterOk v k)) f (pstH b (s.enter v k) :: F)) := by
 have hl := hw.last
 refine Fn.unfold (fun _ h => h) fun ⟨eb, ec⟩ => ?_
 show Fn _ _ _ f (row _ _ _ :: slc _ _ _ _ _ _ :: F) _
 cases ho : s.enterOk v k with
 | false =>
  have hno : v ≤ s.lv ∨ v < s.g ∨ 1073741824 ≤ v ∨ k < 0 := by simp [PM.enterOk] at ho; omega
  have e2 : s.enter v k = s := by simp [PM.enter, ho]
  rw [e2]
  by_cases h1 : v ≤ s.lv
  ·clear hno
   refine Fn.enter Tryz.func153 rfl Tryz.ntmps153 rfl (L := [(0, _), (1, _), (2, _)]) ⟨rfl, rfl, rfl, trivial⟩ fun base => ?_
   refine gO ?_
   refine H.Bo rfl rfl rfl (pst_last_o f F b s eb ec (by omega)) fun _ _ _ hR => ?_
   obtain ⟨rfl, rfl, rfl⟩ := hR
   refine gU ?_
   exact H.Ac rfl rfl zao ⟨rfl, rfl, rfl⟩
  ·by_cases h2 : v < s.g
   ·clear hno
    refine Fn.enter Tryz.func153 rfl Tryz.ntmps153 rfl (L := [(0, _), (1, _), (2, _)]) ⟨rfl, rfl, rfl, trivial⟩ fun base => ?_
    refine gO ?_
    refine H.Bo rfl rfl rfl (pst_last_o f F b s eb ec (by omega)) fun _ _ _ hR => ?_
    obtain ⟨rfl, rfl, rfl⟩ := hR
    refine ga ?_
    exact H.Ac rfl rfl zao ⟨rfl, rfl, rfl⟩
   ·by_cases h3 : 1073741824 ≤ v
    ·clear hno
     refine Fn.enter Tryz.func153 rfl Tryz.ntmps153 rfl (L := [(0, _), (1, _), (2, _)]) ⟨rfl, rfl, rfl, trivial⟩ fun base => ?_
     refine gO ?_
     refine H.Bo rfl rfl rfl (pst_last_o f F b s eb ec (by omega)) fun _ _ _ hR => ?_
     obtain ⟨rfl, rfl, rfl⟩ := hR
     refine ga ?_
     exact H.Ac rfl rfl zao ⟨rfl, rfl, rfl⟩
    ·have h4 : k < 0 := by omega
     clear hno
     refine Fn.enter Tryz.func153 rfl Tryz.ntmps153 rfl (L := [(0, _), (1, _), (2, _)]) ⟨rfl, rfl, rfl, trivial⟩ fun base => ?_
     refine gO ?_
     refine H.Bo rfl rfl rfl (pst_last_o f F b s eb ec (by omega)) fun _ _ _ hR => ?_
     obtain ⟨rfl, rfl, rfl⟩ := hR
     refine gK ?_
     exact H.Ac rfl rfl zao ⟨rfl, rfl, rfl⟩
 | true =>
  obtain ⟨h1, h2, h3, h4⟩ : s.lv < v ∧ s.g ≤ v ∧ v < 1073741824 ∧ 0 ≤ k := by simpa [PM.enterOk] using ho
  have e2 : s.enter v k = ⟨v, s.all, v, k⟩ := by simp [PM.enter, ho]
  rw [e2]
  refine Fn.enter Tryz.func153 rfl Tryz.ntmps153 rfl (L := [(0, _), (1, _), (2, _)]) ⟨rfl, rfl, rfl, trivial⟩ fun base => ?_
  refine gO ?_
  refine H.Bo rfl rfl rfl (pst_last_o f F b s eb ec (by omega)) fun _ _ _ hR => ?_
  obtain ⟨rfl, rfl, rfl⟩ := hR
  refine gZ ?_
  refine H.Bb rfl rfl rfl rfl (by decide) (by decide) rfl rfl fun tb => ?_
  refine H.Bd (m := 1) rfl rfl rfl rfl rfl (fun p' c' => (by repeat constructor)) (Src.slice (Rd.ofRow (by repeat constructor)) rfl) (zad rfl) rfl (by omega) (by omega) fun p' c' => ?_
  refine H.Bq (by repeat constructor) (by omega) fun eb' hp => ?_
  subst hp
  refine gc ?_
  refine H.Ab (.here _ _) ?_
  have hf := zao (b := b) (eb := eb') (ec := c') (s := ⟨v, s.all, v, k⟩) (F := F)
  have hvw : flatV voteV (⟨v, s.all, v, k⟩ : PM).all = flatV voteV s.all ++ [.int .u64 v, .int .i64 k] := by
   simp only [PM.all]
   rw [flatV_append]
   rfl
  have hlen : (⟨v, s.all, v, k⟩ : PM).init.length = s.init.length + 1 := by simp [PM.all]
  rw [hvw, hlen] at hf
  exact H.Ac rfl rfl hf ⟨rfl, rfl, rfl⟩
theorem voted_drop : ∀ (l : List (Int × Int)) (k : Nat) (v : Int), (∀ i p, i < k → l[i]? = some p → v ≠ p.1) → PM.voted l v = PM.voted (l.drop k) v
 | l, 0, v, _ => by simp
 | [], k + 1, v, _ => by simp
 | (w, n) :: r, k + 1, v, h => by
  have h0 : v ≠ w := h 0 (w, n) (by omega) (by simp)
  simp only [PM.voted, h0, if_false, List.drop_succ_cons]
  exact voted_drop r k v fun i p hi hp => h (i + 1) p (by omega) (by simpa using hp)
theorem pst_voted (hn : s.init.length ≤ 1000000) (v : Int) :
  Fn Tryz.prog 117 [.pointer (some ⟨b, 0, none⟩), .int .u64 v] f (pstH b s :: F) (Ret (.tuple #[.int .i64 ((PM.voted s.all v).getD 0), .bool (PM.voted s.all v).isSome]) f (pstH b s :: F)) := by
 refine Fn.unfold (fun _ h => h) fun ⟨eb, ec⟩ => ?_
 show Fn _ _ _ f (row _ _ _ :: slc _ _ _ _ _ _ :: F) _
 refine Fn.enter Tryz.func117 rfl Tryz.ntmps117 rfl (L := [(0, _), (1, _)]) ⟨rfl, rfl, trivial⟩ fun base => ?_
 refine gf ?_
 refine H.Ax (fun k : Nat => [(6, .int .i64 (k : Int)), (0, .pointer (some ⟨b, 0, none⟩)), (1, .int .u64 v)]) (fun _ => f) (fun _ => row _ _ _ :: slc _ _ _ _ _ _ :: F) (fun k => k ≤ s.init.length + 1 ∧ ∀ i p, i < k → s.all[i]? = some p → v ≠ p.1) (fun k => s.init.length + 1 - k) 0 ⟨by omega, by intro i p hi; omega⟩ ⟨rfl, rfl, rfl, trivial⟩ rfl rfl fun k hk => ?_
 obtain ⟨hk, hall⟩ := hk
 refine gR ?_
 by_cases hlt : k < s.init.length + 1
 ·obtain ⟨p, hp⟩ : ∃ p, s.all[k]? = some p := ⟨s.all[k]'(by rw [all_len]; omega), by simp⟩
  have g1 : (flatV voteV s.all)[k * 2 + 0]? = some (.int .u64 p.1) := by rw [flatV_get voteV_len _ _ _ _ hp (by decide)]; rfl
  have g2 : (flatV voteV s.all)[k * 2 + 1]? = some (.int .i64 p.2) := by rw [flatV_get voteV_len _ _ _ _ hp (by decide)]; rfl
  refine gR ?_
  refine H.Cf rfl rfl rfl rfl hlt rfl ?_
  refine gP ?_
  refine H.Af rfl rfl rfl (.at0 (Rd.ofSlc (by repeat constructor) (by omega)) g1) rfl ?_
  by_cases hv : p.1 = v
  ·refine gU ?_
   refine H.Cf rfl rfl rfl rfl hlt rfl ?_
   refine gP ?_
   refine H.Af rfl rfl rfl (.at0 (Rd.ofSlc (by repeat constructor) (by omega)) g2) rfl ?_
   refine gf ?_
   have e : PM.voted s.all v = some p.2 := by
    rw [voted_drop s.all k v hall]
    have hk2 : k < s.all.length := by rw [all_len]; omega
    rw [List.drop_eq_getElem_cons hk2]
    have : s.all[k] = p := by rw [List.getElem?_eq_getElem hk2] at hp; exact Option.some.inj hp
    rw [this]
    simp [PM.voted, hv]
   exact H.ret2 rfl rfl rfl zao ⟨by rw [e]; rfl, rfl, rfl⟩
  ·refine gT ?_
   refine H.Am (k + 1) ⟨by omega, ?_⟩ (by omega) ⟨rfl, rfl, rfl, trivial⟩ rfl rfl
   intro i q hi hq
   by_cases c : i = k
   ·subst c; rw [hp] at hq; cases hq; exact fun e => hv e.symm
   ·exact hall i q (by omega) hq
 ·refine gT ?_
  have e : PM.voted s.all v = none := by
   rw [voted_drop s.all k v hall, List.drop_eq_nil_of_le (by rw [all_len]; omega)]
   rfl
  exact H.ret2 rfl rfl rfl zao ⟨by rw [e]; rfl, rfl, rfl⟩
end
def lst (xs : List HP) : HP := fun h => stars xs h
theorem lst_pull {x : HP} : ∀ {xs : List HP} {i : Nat}, xs[i]? = some x → stars xs = star x (stars (xs.set i emp))
 | [], i, h => by simp at h
 | y :: r, 0, h => by
  have e : y = x := by simpa using h
  subst e
  show star y (stars r) = star y (star emp (stars r))
  rw [emp_star]
 | y :: r, i + 1, h => by
  show star y (stars r) = star x (star y (stars (r.set i emp)))
  rw [lst_pull (xs := r) (i := i) (by simpa using h), zaw]
theorem set_get {α : Type} {xs : List α} {i : Nat} {x y : α} (h : xs[i]? = some x) : (xs.set i y)[i]? = some y := by
 rw [List.getElem?_set_self (List.getElem?_eq_some_iff.1 h).1]
theorem lst_put {x0 x : HP} {xs : List HP} {i : Nat} (h : xs[i]? = some x0) : star x (stars (xs.set i emp)) = stars (xs.set i x) := by
 rw [lst_pull (xs := xs.set i x) (i := i) (set_get h), List.set_set]
theorem lst_perm {a b : List HP} (h : a.Perm b) : stars a = stars b := by
 induction h with
 | nil => rfl
 | cons x _ ih => show star x _ = star x _; rw [ih]
 | swap x y l => show star y (star x _) = star x (star y _); rw [zaw]
 | trans _ _ h1 h2 => exact h1.trans h2
theorem set_self {α : Type} {xs : List α} {i : Nat} {x : α} (h : xs[i]? = some x) : xs.set i x = xs := by
 apply List.ext_getElem?
 intro j
 rw [List.getElem?_set]
 split
 ·rename_i e
  subst e
  rw [h]
  split
  ·rfl
  ·rename_i h2
   exact absurd (List.getElem?_eq_some_iff.1 h).1 h2
 ·rfl
theorem lst_pullA {x : HP} {xs : List HP} {i : Nat} (A : List HP) (h : xs[i]? = some x) : stars (lst xs :: A) = stars (x :: lst (xs.set i emp) :: A) := by
 show star (stars xs) (stars A) = star x (star (stars (xs.set i emp)) (stars A))
 rw [lst_pull h, zbj]
theorem lst_putA {x0 x : HP} {xs : List HP} {i : Nat} (A : List HP) (h : xs[i]? = some x0) : stars (x :: lst (xs.set i emp) :: A) = stars (lst (xs.set i x) :: A) := by
 show star x (star (stars (xs.set i emp)) (stars A)) = star (stars (xs.set i x)) (stars A)
 rw [← zbj, lst_put h]
section
variable {P : Program} {base : World} {n : Nat} {L : Env} {f : Frag} {A : List HP} {K : Kont} {xs : List HP} {i : Nat}
theorem H.lstPull {x : HP} (h : xs[i]? = some x) (kk : H P base n L f (x :: lst (xs.set i emp) :: A) K) : H P base n L f (lst xs :: A) K := H.conv (lst_pullA A h) kk
theorem H.lstPut {x0 x : HP} (h : xs[i]? = some x0) (kk : H P base n L f (lst (xs.set i x) :: A) K) : H P base n L f (x :: lst (xs.set i emp) :: A) K := H.conv (lst_putA A h) kk
theorem H.lstBack {x : HP} (h : xs[i]? = some x) (kk : H P base n L f (lst xs :: A) K) : H P base n L f (x :: lst (xs.set i emp) :: A) K := H.lstPut h (by rw [set_self h]; exact kk)
end
/-! ### Rows of cells, one for each number below a bound -/
def rngV (n : Nat) (g : Nat → Value) : List Value := (List.range n).map g
theorem rngV_len (n : Nat) (g : Nat → Value) : (rngV n g).length = n := by unfold rngV; rw [List.length_map, List.length_range]
theorem rngV_get {n : Nat} (g : Nat → Value) {i : Nat} (h : i < n) : (rngV n g)[i]? = some (g i) := by
 unfold rngV
 rw [List.getElem?_map, List.getElem?_range h]
 rfl
theorem rngV_set {n : Nat} (g : Nat → Value) {i : Nat} (v : Value) (h : i < n) : SetV (rngV n g) i v (rngV n (updF g i v)) := by
 have e : rngV n (updF g i v) = (rngV n g).set i v := by
  apply List.ext_getElem?
  intro j
  rw [List.getElem?_set, rngV_len]
  by_cases hj : j < n
  ·rw [rngV_get _ hj]
   split
   ·rename_i e; subst e; rw [zah]
   ·rename_i e; rw [zal _ _ (fun h => e h.symm), rngV_get _ hj]
  ·rw [List.getElem?_eq_none (by rw [rngV_len]; omega)]
   split
   ·rename_i e; omega
   ·rw [List.getElem?_eq_none (by rw [rngV_len]; omega)]
 rw [e]
 exact SetV.mk v (by rw [rngV_len]; exact h)
theorem rngV_congr {n : Nat} {g g' : Nat → Value} (h : ∀ i, i < n → g i = g' i) : rngV n g = rngV n g' := by
 unfold rngV
 exact List.map_congr_left fun i hi => h i (List.mem_range.1 hi)
structure VV where
 w : Vw
 sp : Option Addr
 sc : Nat
 pp : Option Addr
 pc : Nat
def VV.vals (x : VV) : List Value := [.int .u64 x.w.v, .int .u64 x.w.num, .slice x.sp x.w.s.length x.sc, .slice x.pp x.w.p.length x.pc]
theorem VV.len (x : VV) : x.vals.length = 4 := rfl
theorem Req.len (r : Req) : r.vals.length = 40 := rfl
def prepV (y : Int × Req) : List Value := .int .u64 y.1 :: y.2.vals
theorem prepV_len (y : Int × Req) : (prepV y).length = 41 := rfl
def VV.own (x : VV) : HP := slc x.pp x.w.p.length x.pc 241 41 (x.w.p.flatMap prepV)
theorem Reqs_one (l : List Req) : ∀ v ∈ l.flatMap Req.vals, one v = true := by
 intro v hv
 obtain ⟨r, _, hr⟩ := List.mem_flatMap.1 hv
 exact zad (l := r.vals) rfl v hr
def chV (c : Int × Int) : List Value := [.int .u64 c.1, .int .u64 c.2]
theorem chV_len (c : Int × Int) : (chV c).length = 2 := rfl
def lgC (n : Nat) (kn : Nat → Int) (vp : Option Addr) (vl vc : Nat) (pp : Option Addr) (pc : Nat) (cp : Option Addr) (cc : Nat) : List Value := [.int .i64 (n : Int)] ++ v11 kn ++ [.slice vp vl vc, .slice pp n pc, .slice cp n cc]
theorem lgC_kn {f : Frag} {A A' : List HP} {b n : Nat} {T : TypeId} {kn : Nat → Int} {vp : Option Addr} {vl vc : Nat} {pp : Option Addr} {pc : Nat} {cp : Option Addr} {cc : Nat}
  (h : At A (row b T (lgC n kn vp vl vc pp pc cp cc)) A' (row b T (lgC n kn vp vl vc pp pc cp cc))) : Rd f A b (0 + 1) (v11 kn) :=
 (Rd.ofRow (f := f) h).sub rfl
def addrV (b : Nat) : List Value := [.pointer (some ⟨b, 0, none⟩)]
structure LPt where
 V : List VV
 vp : Option Addr
 vc : Nat
 pp : Option Addr
 pc : Nat
 cp : Option Addr
 cc : Nat
 pb : Nat → Nat
 cs : Nat → Option Addr × Nat
structure lgφ (f : Frag) (l : Lgs) (i : LPt) : Prop where
 vs : i.V.map VV.w = l.vs
 s : ∀ x ∈ i.V, ListAt f x.sp 40 Req.vals x.w.s
 p : ListAt f i.pp 1 addrV ((List.range l.n).map i.pb)
def chRow (l : Lgs) (cs : Nat → Option Addr × Nat) : List Value := rngV l.n fun r => .slice (cs r).1 (l.ch r).length (cs r).2
def chFam (l : Lgs) (cs : Nat → Option Addr × Nat) (r : Nat) : HP := slc (cs r).1 (l.ch r).length (cs r).2 234 2 ((l.ch r).flatMap chV)
def lgB (lb : Nat) (l : Lgs) (i : LPt) : List HP := [row lb 200 (lgC l.n l.known i.vp i.V.length i.vc i.pp i.pc i.cp i.cc), slc i.vp i.V.length i.vc 195 4 (i.V.flatMap VV.vals), lst (i.V.map VV.own),
 fam (fun r => pstH (i.pb r) (l.past r)) l.n, slc i.cp l.n i.cc 232 1 (chRow l i.cs), fam (chFam l i.cs) l.n]
def logsH (f : Frag) (lb : Nat) (l : Lgs) : HP := pack (lgφ f l) (lgB lb l)
theorem lgφ.mono {f g : Frag} (h : Le f g) {l : Lgs} {i : LPt} (hl : lgφ f l i) : lgφ g l i := ⟨hl.vs, fun x hx => (hl.s x hx).mono h, hl.p.mono h⟩
theorem logsH_mono {f g : Frag} (h : Le f g) {lb : Nat} {l : Lgs} : ∀ x, logsH f lb l x → logsH g lb l x := fun _ ⟨i, hi, hx⟩ => ⟨i, hi.mono h, hx⟩
theorem zai {f : Frag} {F : List HP} {lb : Nat} {l : Lgs} (i : LPt) (h : lgφ f l i) : ∀ x, stars (lgB lb l i ++ F) x → stars (logsH f lb l :: F) x := fun x hx =>
 pack_fold (φ := lgφ f l) (B := lgB lb l) i h x hx
theorem lgφ.len {f : Frag} {l : Lgs} {i : LPt} (h : lgφ f l i) : i.V.length = l.vs.length := by rw [← h.vs, List.length_map]
theorem lgφ.at {f : Frag} {l : Lgs} {i : LPt} (h : lgφ f l i) {j : Nat} {x : VV} (hx : i.V[j]? = some x) : l.vs[j]? = some x.w := by rw [← h.vs, List.getElem?_map, hx]; rfl
theorem lgφ.of {f : Frag} {l : Lgs} {i : LPt} (h : lgφ f l i) {j : Nat} {w : Vw} (hw : l.vs[j]? = some w) : ∃ x, i.V[j]? = some x ∧ x.w = w := by
 rw [← h.vs, List.getElem?_map] at hw
 cases e : i.V[j]? with
 | none => rw [e] at hw; cases hw
 | some x => rw [e] at hw; cases hw; exact ⟨x, rfl, rfl⟩
theorem lgφ.past {f : Frag} {l : Lgs} {i : LPt} (h : lgφ f l i) (hn : 0 < l.n) : ∃ b off, i.pp = some ⟨b, off, none⟩ ∧ ∀ {e : Frag} {A : List HP} {r : Nat}, Le f e → r < l.n → Rd1 e A b (off + r) (.pointer (some ⟨i.pb r, 0, none⟩)) := by
 obtain ⟨b, off, h1, rd⟩ := ListAt.all (vals := addrV) (sz := 1) (fun _ => rfl) (by decide) h.p (by rw [List.length_map, List.length_range]; exact hn)
 refine ⟨b, off, h1, fun {e A r} he hr => ?_⟩
 have h2 := rd e A r (i.pb r) he (by rw [List.getElem?_map, List.getElem?_range hr]; rfl)
 have h3 := Rd1.of (i := 0) h2 (v := .pointer (some ⟨i.pb r, 0, none⟩)) rfl
 rw [Nat.mul_one, Nat.add_zero] at h3
 exact h3
section
variable (f : Frag) (F : List HP)
theorem prim_fn {n : Nat} (hn : 1 ≤ n ∧ n ≤ 11) {v : Int} (hv : 0 ≤ v) : Fn Tryz.prog 149 [.int .i64 (n : Int), .int .u64 v] f F (Ret (.int .i64 (primZ n v)) f F) := by
 have h1 : v % (n : Int) < n := Int.emod_lt_of_pos v (by omega)
 have h2 : 0 ≤ v % (n : Int) := Int.emod_nonneg v (by omega)
 have e : v.tmod (n : Int) = ((primI n v : Nat) : Int) := by
  unfold primI
  rw [Int.tmod_eq_emod_of_nonneg hv]
  omega
 have hl : primI n v < 11 := by unfold primI; omega
 refine Fn.enter Tryz.func149 rfl Tryz.ntmps149 rfl (L := [(0, _), (1, _)]) ⟨rfl, rfl, trivial⟩ fun base => ?_
 refine gI ?_
 refine H.rem (z := ((primI n v : Nat) : Int)) rfl rfl rfl (by omega) e rfl ?_
 refine gI ?_
 exact H.Ac rfl rfl (fun _ h => h) ⟨rfl, rfl, rfl⟩
theorem lgview_fn {lb n : Nat} {kn : Nat → Int} {V : List VV} {vp : Option Addr} {vc : Nat} {pp : Option Addr} {pc : Nat} {cp : Option Addr} {cc : Nat} (hl : V.length ≤ 100000) (v : Int) :
  Fn Tryz.prog 150 [.pointer (some ⟨lb, 0, none⟩), .int .u64 v] f (row lb 200 (lgC n kn vp V.length vc pp pc cp cc) :: slc vp V.length vc 195 4 (V.flatMap VV.vals) :: F)
   (Ret (.int .i64 (vwZ (V.map VV.w) v)) f (row lb 200 (lgC n kn vp V.length vc pp pc cp cc) :: slc vp V.length vc 195 4 (V.flatMap VV.vals) :: F)) := by
 refine Fn.enter Tryz.func150 rfl Tryz.ntmps150 rfl (L := [(0, _), (1, _)]) ⟨rfl, rfl, trivial⟩ fun base => ?_
 refine gf ?_
 refine H.Ax (ι := Nat) (fun i => [(5, .int .i64 (i : Int)), (0, .pointer (some ⟨lb, 0, none⟩)), (1, .int .u64 v)]) (fun _ => f)
  (fun _ => row lb 200 (lgC n kn vp V.length vc pp pc cp cc) :: slc vp V.length vc 195 4 (V.flatMap VV.vals) :: F)
  (fun i => i ≤ V.length ∧ ∀ j x, j < i → V[j]? = some x → x.w.v ≠ v) (fun i => V.length - i) 0 ⟨Nat.zero_le _, fun j x hj => by omega⟩ ⟨rfl, rfl, rfl, trivial⟩ rfl rfl fun i hi => ?_
 obtain ⟨hi, hb⟩ : i ≤ V.length ∧ ∀ j x, j < i → V[j]? = some x → x.w.v ≠ v := hi
 by_cases hlt : i < V.length
 ·obtain ⟨x, hx⟩ : ∃ x, V[i]? = some x := ⟨_, List.getElem?_eq_getElem hlt⟩
  refine H.Bq (p := vp) (n0 := V.length) (c := vc) (.there _ (.here _ _ _)) (by omega) fun sb hp => ?_
  subst hp
  refine gR ?_
  refine H.Ar (i := i) rfl rfl rfl rfl hlt rfl ?_
  refine gP ?_
  refine H.Af rfl rfl rfl (Rd1.of (i := 0) (by rw [Nat.zero_add]; exact Rd.slcElem VV.len (by decide) (.there _ (.here _ _ _)) hx) rfl) rfl ?_
  refine gH ?_
  by_cases hv : x.w.v = v
  ·skip
   refine gL ?_
   refine H.Ac rfl rfl (fun _ h => h) ⟨?_, rfl, rfl⟩
   have e : vwAt (V.map VV.w) v = some i := zav.2 ⟨⟨x.w, by rw [List.getElem?_map, hx]; rfl, hv⟩, fun j w hj hw => by
    rw [List.getElem?_map] at hw
    cases hj2 : V[j]? with
    | none => rw [hj2] at hw; cases hw
    | some y => rw [hj2] at hw; cases hw; exact hb j y hj hj2⟩
   unfold vwZ
   rw [e]
  ·skip
   refine gT ?_
   refine H.Am (i + 1) ⟨by show i + 1 ≤ V.length; omega, fun j y hj hy => ?_⟩ (by show V.length - (i + 1) < V.length - i; omega) ⟨rfl, rfl, rfl, trivial⟩ rfl rfl
   by_cases e : j = i
   ·subst e; rw [hx] at hy; cases hy; exact hv
   ·exact hb j y (by omega) hy
 ·skip
  refine gR ?_
  refine H.Ac rfl rfl (fun _ h => h) ⟨?_, rfl, rfl⟩
  have e : vwAt (V.map VV.w) v = none := vwAt_none.2 fun w hw => by
   obtain ⟨x, hx, rfl⟩ := List.mem_map.1 hw
   obtain ⟨j, hj⟩ := List.getElem?_of_mem hx
   have hjl := (List.getElem?_eq_some_iff.1 hj).1
   exact hb j x (by omega) hj
  unfold vwZ
  rw [e]
theorem holds_fn {p : Option Addr} {c : Nat} {R : List Req} (cl t : Int) (hl : R.length ≤ 100000) : Fn Tryz.prog 155 [.slice p R.length c, .int .i64 cl, .int .u64 t] f (slc p R.length c 42 40 (R.flatMap Req.vals) :: F)
  (Ret (.bool (holdsB R cl t)) f (slc p R.length c 42 40 (R.flatMap Req.vals) :: F)) := by
 refine Fn.enter Tryz.func155 rfl Tryz.ntmps155 rfl (L := [(0, _), (1, _), (2, _)]) ⟨rfl, rfl, rfl, trivial⟩ fun base => ?_
 refine gf ?_
 refine H.Ax (ι := Nat) (fun i => [(7, .int .i64 (i : Int)), (0, .slice p R.length c), (1, .int .i64 cl), (2, .int .u64 t)]) (fun _ => f)
  (fun _ => slc p R.length c 42 40 (R.flatMap Req.vals) :: F)
  (fun i => i ≤ R.length ∧ ∀ j x, j < i → R[j]? = some x → ¬ (x.client = cl ∧ x.time = t)) (fun i => R.length - i) 0 ⟨Nat.zero_le _, fun j x hj => by omega⟩ ⟨rfl, rfl, rfl, rfl, trivial⟩ rfl rfl fun i hi => ?_
 obtain ⟨hi, hb⟩ : i ≤ R.length ∧ ∀ j x, j < i → R[j]? = some x → ¬ (x.client = cl ∧ x.time = t) := hi
 by_cases hlt : i < R.length
 ·obtain ⟨x, hx⟩ : ∃ x, R[i]? = some x := ⟨_, List.getElem?_eq_getElem hlt⟩
  refine H.Bq (p := p) (n0 := R.length) (c := c) (.here _ _ _) (by omega) fun sb hp => ?_
  subst hp
  have rd : Rd f (slc (some ⟨sb, 0, none⟩) R.length c 42 40 (R.flatMap Req.vals) :: F) sb (0 + i * 40) x.vals := by rw [Nat.zero_add]; exact Rd.slcElem Req.len (by decide) (.here _ _ _) hx
  by_cases h1 : x.client = cl
  ·by_cases h2 : x.time = t
   ·skip
    refine gL ?_
    refine H.Ar (i := i) rfl rfl rfl rfl hlt rfl ?_
    refine gP ?_
    refine H.Af rfl rfl rfl (Rd1.of (i := 0) rd rfl) rfl ?_
    refine gM ?_
    refine H.Ar (i := i) rfl rfl rfl rfl hlt rfl ?_
    refine gP ?_
    refine H.Af rfl rfl rfl (Rd1.of (i := 1) rd rfl) rfl ?_
    refine gU ?_
    refine H.Ac rfl rfl (fun _ h => h) ⟨?_, rfl, rfl⟩
    have e : holdsB R cl t = true := List.any_eq_true.2 ⟨x, List.mem_of_getElem? hx, by rw [decide_eq_true h1, decide_eq_true h2]; rfl⟩
    rw [e]
   ·skip
    refine gL ?_
    refine H.Ar (i := i) rfl rfl rfl rfl hlt rfl ?_
    refine gP ?_
    refine H.Af rfl rfl rfl (Rd1.of (i := 0) rd rfl) rfl ?_
    refine gM ?_
    refine H.Ar (i := i) rfl rfl rfl rfl hlt rfl ?_
    refine gP ?_
    refine H.Af rfl rfl rfl (Rd1.of (i := 1) rd rfl) rfl ?_
    refine gT ?_
    refine H.Am (i + 1) ⟨by show i + 1 ≤ R.length; omega, fun j y hj hy => ?_⟩ (by show R.length - (i + 1) < R.length - i; omega) ⟨rfl, rfl, rfl, rfl, trivial⟩ rfl rfl
    by_cases e : j = i
    ·subst e; rw [hx] at hy; cases hy; exact fun h => h2 h.2
    ·exact hb j y (by omega) hy
  ·skip
   refine gL ?_
   refine H.Ar (i := i) rfl rfl rfl rfl hlt rfl ?_
   refine gP ?_
   refine H.Af rfl rfl rfl (Rd1.of (i := 0) rd rfl) rfl ?_
   refine ga ?_
   refine H.Am (i + 1) ⟨by show i + 1 ≤ R.length; omega, fun j y hj hy => ?_⟩ (by show R.length - (i + 1) < R.length - i; omega) ⟨rfl, rfl, rfl, rfl, trivial⟩ rfl rfl
   by_cases e : j = i
   ·subst e; rw [hx] at hy; cases hy; exact fun h => h1 h.1
   ·exact hb j y (by omega) hy
 ·skip
  refine gH ?_
  refine H.Ac rfl rfl (fun _ h => h) ⟨?_, rfl, rfl⟩
  have e : holdsB R cl t = false := List.any_eq_false.2 fun x hx h => by
   obtain ⟨j, hj⟩ := List.getElem?_of_mem hx
   have hjl := (List.getElem?_eq_some_iff.1 hj).1
   simp only [Bool.and_eq_true, decide_eq_true_eq] at h
   exact hb j x (by omega) hj h
  rw [e]
theorem all_fn {fs : Frag} (hfs : Le fs f) {x : VV} (hs : ListAt fs x.sp 40 Req.vals x.w.s) (hl : x.w.s.length + x.w.p.length ≤ 100000) :
  Fn Tryz.prog 156 [.agg x.vals.toArray] f (x.own :: F) (RetE (fun i : Option Addr × Nat => .slice i.1 x.w.all.length i.2) f (fun i => slc i.1 x.w.all.length i.2 42 40 (x.w.all.flatMap Req.vals) :: x.own :: F)) := by
 refine Fn.enter Tryz.func156 rfl Tryz.ntmps156 rfl (L := [(0, _)]) ⟨rfl, trivial⟩ fun base => ?_
 refine gC ?_
 refine H.box (ls := x.vals) rfl rfl rfl rfl fun wb => ?_
 refine gO ?_
 refine H.Bb (out := []) rfl rfl rfl rfl (by decide) (by decide) rfl rfl fun eb => ?_
 refine H.asSlc (k := 0) (sz := 40) rfl (by decide) ?_
 refine H.Aa (x := row wb _ _) (by repeat constructor) ?_
 refine gP ?_
 refine H.Bd (xs := []) (m := x.w.s.length) (news := x.w.s.flatMap Req.vals) rfl rfl rfl rfl rfl (fun p' c' => (by repeat constructor)) ((hs.mono hfs).src Req.len (by decide)) (Reqs_one _) rfl (by omega) (by omega) fun ap ac => ?_
 rw [Nat.zero_add, List.nil_append]
 refine gf ?_
 have hll := x.w.all_len
 have hall : ∀ k, k ≤ x.w.p.length → (x.w.s ++ (x.w.p.take k).map Prod.snd).length = x.w.s.length + k := fun k hk => by
  rw [List.length_append, List.length_map, List.length_take]; omega
 refine H.Aa (x := VV.own x) (by repeat constructor) ?_
 refine H.Aa (x := slc ap _ ac _ _ _) (by repeat constructor) ?_
 refine H.Aa (x := row wb _ _) (by repeat constructor) ?_
 refine H.Ax (ι := Nat × Option Addr × Nat) (fun s => [(4, .int .i64 (s.1 : Int)), (3, .slice s.2.1 (x.w.s.length + s.1) s.2.2), (1, .pointer (some ⟨wb, 0, none⟩))]) (fun _ => f)
  (fun s => row wb 195 x.vals :: slc s.2.1 (x.w.s.length + s.1) s.2.2 42 40 ((x.w.s ++ (x.w.p.take s.1).map Prod.snd).flatMap Req.vals) :: x.own :: F)
  (fun s => s.1 ≤ x.w.p.length) (fun s => x.w.p.length - s.1) (0, ap, ac) (Nat.zero_le _) ⟨rfl, rfl, rfl, trivial⟩ rfl (by simp) fun s hs => ?_
 obtain ⟨i, qp, qc⟩ := s
 have hi : i ≤ x.w.p.length := hs
 show H _ _ _ [(4, .int .i64 (i : Int)), (3, .slice qp (x.w.s.length + i) qc), _] f (_ :: slc qp (x.w.s.length + i) qc _ 40 ((x.w.s ++ (x.w.p.take i).map Prod.snd).flatMap Req.vals) :: x.own :: F) _
 by_cases hlt : i < x.w.p.length
 ·obtain ⟨y, hy⟩ : ∃ y, x.w.p[i]? = some y := ⟨_, List.getElem?_eq_getElem hlt⟩
  have e1 : (x.w.s ++ (x.w.p.take (i + 1)).map Prod.snd).flatMap Req.vals = (x.w.s ++ (x.w.p.take i).map Prod.snd).flatMap Req.vals ++ y.2.vals := by
   rw [List.take_add_one, hy, List.map_append, ← List.append_assoc, List.flatMap_append]
   simp
  refine H.Bq (p := x.pp) (n0 := x.w.p.length) (c := x.pc) (T := 241) (sz := 41) (xs := x.w.p.flatMap prepV) (.there _ (.there _ (.here _ _ _))) (by omega) fun sb hp => ?_
  refine gR ?_
  rw [hp]
  refine H.Ar (i := i) rfl rfl rfl rfl hlt rfl ?_
  refine gP ?_
  refine H.Ah (ls := y.2.vals) rfl rfl rfl (Rd.sub (pre := [.int .u64 y.1]) (l := y.2.vals) (post := []) (by rw [List.append_nil, Nat.zero_add]; exact Rd.slcElem (vals := prepV) (xs := x.w.p) prepV_len (by decide) (by rw [← hp]; exact .there _ (.there _ (.here _ _ _))) hy) rfl) rfl rfl ?_
  refine H.Bb (out := y.2.vals) rfl rfl rfl rfl (by decide) (by decide) rfl rfl fun eb2 => ?_
  refine H.Bd (p := qp) (n0 := x.w.s.length + i) (c := qc) (m := 1) (news := y.2.vals) rfl rfl rfl rfl rfl (fun p' c' => (by repeat constructor)) (Src.slice (Rd.ofRow (by repeat constructor)) rfl) (zad rfl) rfl (by omega) (by omega) fun p2 c2 => ?_
  refine gI ?_
  refine H.Ab (x := row eb2 _ _) (by repeat constructor) ?_
  refine H.Aa (x := VV.own x) (by repeat constructor) ?_
  refine H.Aa (x := slc p2 _ c2 _ _ _) (by repeat constructor) ?_
  refine H.Aa (x := row wb _ _) (by repeat constructor) ?_
  refine H.Am (i + 1, p2, c2) (by show i + 1 ≤ x.w.p.length; omega) (by show x.w.p.length - (i + 1) < x.w.p.length - i; omega) ⟨rfl, rfl, rfl, trivial⟩ rfl ?_
  show _ :: slc p2 (x.w.s.length + i + 1) c2 _ 40 _ :: _ = _ :: slc p2 (x.w.s.length + (i + 1)) c2 _ 40 _ :: _
  rw [e1, Nat.add_assoc]
 ·have e : i = x.w.p.length := by omega
  subst e
  refine gR ?_
  refine H.Ab (x := row wb _ _) (by repeat constructor) ?_
  have e1 : x.w.s ++ (x.w.p.take x.w.p.length).map Prod.snd = x.w.all := by rw [List.take_length]; rfl
  rw [e1, ← hll]
  exact H.Ac rfl rfl (fun _ h => h) ⟨(qp, qc), rfl, rfl, rfl⟩
end
section
variable (f : Frag) (F : List HP)
set_option maxRecDepth 20000 in
set_option maxHeartbeats 1600000 in
theorem changed_fn {lb : Nat} {l : Lgs} {kn : Nat → Int} {vp : Option Addr} {vl vc : Nat} {pp : Option Addr} {pc : Nat} {cp : Option Addr} {cc : Nat} {cs : Nat → Option Addr × Nat} {q : Int × Int} (hq : 1 ≤ q.1 ∧ q.1 ≤ (l.n : Int)) (hn : l.n ≤ 11) (hc : ∀ r, (l.ch r).length ≤ 100000) (v : Int) :
  Fn Tryz.prog 175 [.pointer (some ⟨lb, 0, none⟩), .agg (pairV q).toArray, .int .u64 v] f
   (row lb 200 (lgC l.n kn vp vl vc pp pc cp cc) :: slc cp l.n cc 232 1 (chRow l cs) :: fam (chFam l cs) l.n :: F)
   (Ret (.bool (chB l q v)) f (row lb 200 (lgC l.n kn vp vl vc pp pc cp cc) :: slc cp l.n cc 232 1 (chRow l cs) :: fam (chFam l cs) l.n :: F)) := by
 obtain ⟨r, hre⟩ : ∃ r, r = (q.1 - 1).toNat := ⟨_, rfl⟩
 have hr : r < l.n := by omega
 have hrz : q.1 - 1 = (r : Nat) := by omega
 have hcr := hc r
 refine Fn.enter Tryz.func175 rfl Tryz.ntmps175 rfl (L := [(0, _), (1, _), (2, _)]) ⟨rfl, rfl, rfl, trivial⟩ fun base => ?_
 refine gC ?_
 refine H.box (ls := pairV q) rfl rfl rfl rfl fun qb => ?_
 refine gO ?_
 refine H.Bq (p := cp) (n0 := l.n) (c := cc) (.there _ (.there _ (.here _ _ _))) (by omega) fun cb hp => ?_
 subst hp
 refine H.Bg (by kernel_rfl) (by decide +kernel) (by repeat (first | exact zab | refine zaa ?_ | refine zac ?_ | refine zae ?_)) ?_
 refine gW ?_
 refine HQ.Ar (i := r) rfl rfl rfl hrz hr rfl ?_
 refine HQ.Af rfl rfl rfl (by rw [Nat.zero_add, Nat.mul_one]; exact Rd1.at0 (Rd.ofSlc (.there _ (.there _ (.here _ _ _))) (by omega)) (rngV_get _ hr)) rfl ?_
 refine gS ?_
 refine H.Aa (x := fam _ _) (by repeat constructor) ?_
 refine H.Cj hr ?_
 refine H.Aa (x := fam _ _) (by repeat constructor) ?_
 refine H.Aa (x := chFam l cs r) (by repeat constructor) ?_
 refine H.Aa (x := row qb _ _) (by repeat constructor) ?_
 refine gf ?_
 refine H.Ax (ι := Nat) (fun i => [(8, .int .i64 (i : Int)), (7, .slice (cs r).1 (l.ch r).length (cs r).2), (2, .int .u64 v), (4, .pointer (some ⟨qb, 0, none⟩))]) (fun _ => f)
  (fun _ => row qb 61 (pairV q) :: chFam l cs r :: fam (updF (chFam l cs) r emp) l.n :: row lb 200 (lgC l.n kn vp vl vc pp pc (some ⟨cb, 0, none⟩) cc) :: slc (some ⟨cb, 0, none⟩) l.n cc 232 1 (chRow l cs) :: F)
  (fun i => i ≤ (l.ch r).length ∧ ∀ j x, j < i → (l.ch r)[j]? = some x → ¬ (x.1 = v ∧ x.2 = q.2)) (fun i => (l.ch r).length - i) 0 ⟨Nat.zero_le _, fun j x hj => by omega⟩ ⟨rfl, rfl, rfl, rfl, trivial⟩ rfl rfl fun i hi => ?_
 obtain ⟨hi, hb⟩ : i ≤ (l.ch r).length ∧ ∀ j x, j < i → (l.ch r)[j]? = some x → ¬ (x.1 = v ∧ x.2 = q.2) := hi
 by_cases hlt : i < (l.ch r).length
 ·obtain ⟨x, hx⟩ : ∃ x, (l.ch r)[i]? = some x := ⟨_, List.getElem?_eq_getElem hlt⟩
  refine H.Bq (p := (cs r).1) (n0 := (l.ch r).length) (c := (cs r).2) (T := 234) (sz := 2) (xs := (l.ch r).flatMap chV) (.there _ (.here _ _ _)) (by omega) fun sb hp => ?_
  have rd : ∀ {G : List HP}, Rd f (row qb 61 (pairV q) :: chFam l cs r :: G) sb (0 + i * 2) (chV x) := fun {G} => by
   rw [Nat.zero_add]; exact Rd.slcElem (vals := chV) (xs := l.ch r) (n := (l.ch r).length) (c := (cs r).2) (T := 234) chV_len (by decide) (by rw [← hp]; exact .there _ (.here _ _ _)) hx
  refine gL ?_
  refine H.Bg (by kernel_rfl) (by decide +kernel) (by repeat (first | exact zab | refine zaa ?_ | refine zac ?_ | refine zae ?_)) ?_
  rw [hp]
  refine gD ?_
  refine HQ.Ar (i := i) rfl rfl rfl rfl hlt rfl ?_
  refine gE ?_
  refine HQ.Af rfl rfl rfl (Rd1.of (i := 0) rd rfl) rfl ?_
  refine ge ?_
  by_cases h1 : x.1 = v
  ·skip
   refine ge ?_
   refine HQ.Ar (i := i) rfl rfl rfl rfl hlt rfl ?_
   refine gE ?_
   refine HQ.Af rfl rfl rfl (Rd1.of (i := 1) rd rfl) rfl ?_
   refine ge ?_
   by_cases h2 : x.2 = q.2
   ·skip
    skip
    refine gL ?_
    have e : chB l q v = true := by
     unfold chB
     rw [← hre]
     exact List.any_eq_true.2 ⟨x, List.mem_of_getElem? hx, by rw [decide_eq_true h1, decide_eq_true h2]; rfl⟩
    rw [e]
    refine H.Ab (.here _ _) ?_
    refine H.Ck hr ?_
    refine H.Aa (x := slc _ _ _ _ _ _) (by repeat constructor) ?_
    refine H.Aa (x := row lb _ _) (by repeat constructor) ?_
    exact H.Ac rfl rfl (fun _ h => h) ⟨rfl, rfl, rfl⟩
   ·skip
    skip
    refine gT ?_
    refine H.Am (i + 1) ⟨by show i + 1 ≤ (l.ch r).length; omega, fun j y hj hy => ?_⟩ (by show (l.ch r).length - (i + 1) < (l.ch r).length - i; omega) ⟨rfl, by rw [← hp]; rfl, rfl, rfl, trivial⟩ rfl rfl
    by_cases e : j = i
    ·subst e; rw [hx] at hy; cases hy; exact fun h => h2 h.2
    ·exact hb j y (by omega) hy
  ·skip
   refine ge ?_
   refine gV ?_
   refine H.Am (i + 1) ⟨by show i + 1 ≤ (l.ch r).length; omega, fun j y hj hy => ?_⟩ (by show (l.ch r).length - (i + 1) < (l.ch r).length - i; omega) ⟨rfl, by rw [← hp]; rfl, rfl, rfl, trivial⟩ rfl rfl
   by_cases e : j = i
   ·subst e; rw [hx] at hy; cases hy; exact fun h => h1 h.1
   ·exact hb j y (by omega) hy
 ·skip
  refine gH ?_
  have e : chB l q v = false := by
   unfold chB
   rw [← hre]
   refine List.any_eq_false.2 fun x hx h => ?_
   obtain ⟨j, hj⟩ := List.getElem?_of_mem hx
   have hjl := (List.getElem?_eq_some_iff.1 hj).1
   simp only [Bool.and_eq_true, decide_eq_true_eq] at h
   exact hb j x (by omega) hj h
  rw [e]
  refine H.Ab (.here _ _) ?_
  refine H.Ck hr ?_
  refine H.Aa (x := slc _ _ _ _ _ _) (by repeat constructor) ?_
  refine H.Aa (x := row lb _ _) (by repeat constructor) ?_
  exact H.Ac rfl rfl (fun _ h => h) ⟨rfl, rfl, rfl⟩
end
def LgP (f : Frag) (F : List HP) (lb : Nat) (r : Bool × Lgs) : Value → Frag → List HP → Prop := fun v f' A' => ∃ g, Dj f g ∧ v = .bool r.1 ∧ f' = un f g ∧ A' = logsH f' lb r.2 :: F
theorem flatV_flat {α : Type} (g : α → List Value) (l : List α) : flatV g l = l.flatMap g := by unfold flatV; rw [List.flatMap_def]
theorem LgP.no {f : Frag} {F : List HP} {lb : Nat} {l : Lgs} {r : Bool × Lgs} (h : r = (false, l)) : LgP f F lb r (.bool false) f (logsH f lb l :: F) := by
 rw [h]
 exact ⟨nil0, Dj.nil _, rfl, (un_nil f).symm, rfl⟩
theorem ins_step {α : Type} {V : List α} {k : Nat} {y z : α} (h : V[k]? = some z) : (V.take (k + 1) ++ y :: V.drop (k + 1)).set (k + 1) z = V.take k ++ z :: V.drop k := by
 have hk := (List.getElem?_eq_some_iff.1 h).1
 have h2 := (List.getElem?_eq_some_iff.1 h).2
 have hl : (V.take (k + 1)).length = k + 1 := by rw [List.length_take]; omega
 rw [List.set_append_right _ _ (by omega), hl, Nat.sub_self, List.take_add_one, h, List.drop_eq_getElem_cons hk, h2]
 simp
theorem ins_last {α : Type} {V : List α} {k : Nat} {y z : α} (hk : k ≤ V.length) : (V.take k ++ y :: V.drop k).set k z = V.take k ++ z :: V.drop k := by
 have hl : (V.take k).length = k := by rw [List.length_take]; omega
 rw [List.set_append_right _ _ (by omega), hl, Nat.sub_self]
 rfl
theorem ins_get {α : Type} {V : List α} {k j : Nat} {y : α} (hj : j < k) (hk : k ≤ V.length) : (V.take k ++ y :: V.drop k)[j]? = V[j]? := by
 rw [List.getElem?_append_left (by rw [List.length_take]; omega), List.getElem?_take_of_lt hj]
theorem ins_len {α : Type} {V : List α} {k : Nat} {y : α} (hk : k ≤ V.length) : (V.take k ++ y :: V.drop k).length = V.length + 1 := by
 rw [List.length_append, List.length_take, List.length_cons, List.length_drop]; omega
theorem ListAt.takeL {α : Type} {f : Frag} {p : Option Addr} {sz : Nat} {vals : α → List Value} {l : List α} (h : ListAt f p sz vals l) (k : Nat) : ListAt f p sz vals (l.take k) := fun i x hx => h i x (by
 rw [List.getElem?_take] at hx
 split at hx
 ·exact hx
 ·cases hx)
theorem bestOf_cons (bv : Int) (x : Int × Int) (r : List (Int × Int)) (a : Int × Int) : bestOf bv (x :: r) a = bestOf bv r (if x.1 < bv ∧ (a.1 < x.1 ∨ (x.1 = a.1 ∧ a.2 < x.2)) then x else a) := rfl
theorem bestQ_cons (past : Nat → PM) (bv : Int) (q : Int × Int) (r : List (Int × Int)) (a : Int × Int) : bestQ past bv (q :: r) a = bestQ past bv r (bestOf bv (past (q.1 - 1).toNat).all a) := rfl
theorem slc_emp (T : TypeId) (sz : Nat) : slc none 0 0 T sz [] = emp := by
 funext h
 refine propext ⟨fun ⟨_, _, h3⟩ => ?_, fun e => ⟨by simp, by omega, .inl ⟨rfl, rfl, e⟩⟩⟩
 rcases h3 with ⟨_, _, e⟩ | ⟨b, sp, e, _⟩
 ·exact e
 ·cases e
theorem pst_updF (pb : Nat → Nat) (P : Nat → PM) (r0 : Nat) (s : PM) : updF (fun r => pstH (pb r) (P r)) r0 (pstH (pb r0) s) = fun r => pstH (pb r) (updF P r0 s r) := by
 funext r
 unfold updF
 split
 ·rename_i h; subst h; rfl
 ·rfl
section
variable (f : Frag) (F : List HP)
set_option maxRecDepth 20000 in
set_option maxHeartbeats 6400000 in
theorem begins_fn {fl : Frag} (hfl : Le fl f) {lb : Nat} {l : Lgs} {T : Nat} (hL : LI l T) (hT : T ≤ 50000) {x : MV} (hx : x.Good f) (hm : MIn l.n x.m) :
  Fn Tryz.prog 152 [.pointer (some ⟨lb, 0, none⟩), .agg x.vals.toArray] f (logsH fl lb l :: F) (LgP f F lb (l.begins x.m)) := by
 refine Fn.unpack fun i0 hi => ?_
 obtain ⟨V, vp, vc, pp, pc, cp, cc, pb, cs⟩ := i0
 have hiF := hi.mono hfl
 have hn := hL.n3
 have hqat : ListAt f x.qp 2 pairV x.m.body.q := hx.1
 have hql : x.m.body.q.length ≤ 1000000 := by have := hx.2.1; omega
 show Fn _ _ _ f (row lb 200 (lgC l.n l.known vp V.length vc pp pc cp cc) :: slc vp V.length vc 195 4 (V.flatMap VV.vals) :: lst (V.map VV.own) :: fam (fun r => pstH (pb r) (l.past r)) l.n :: slc cp l.n cc 232 1 (chRow l cs) :: fam (chFam l cs) l.n :: F) _
 refine Fn.enter Tryz.func152 rfl Tryz.ntmps152 rfl (L := [(0, _), (1, _)]) ⟨rfl, rfl, trivial⟩ fun base => ?_
 refine gC ?_
 refine H.box (ls := x.vals) rfl rfl rfl rfl fun mb => ?_
 refine gY ?_
 refine H.Ah (ls := x.m.body.vals x.qp x.qc) rfl rfl rfl (msg_body (.here _ _ _)) rfl rfl ?_
 refine H.Au (ls := (Bod.zero 0).vals none 0) rfl rfl rfl fun bb => ?_
 refine H.Ak (ls := (Bod.zero 0).vals none 0) (vs := x.m.body.vals x.qp x.qc) (ls' := x.m.body.vals x.qp x.qc) rfl rfl rfl (zad rfl) rfl rfl (Nat.le_refl 76) (.here _ _ _) ?_
 refine gC ?_
 refine H.Bg (by kernel_rfl) (by decide +kernel) (by repeat (first | exact zab | refine zaa ?_ | refine zac ?_ | refine zae ?_)) ?_
 refine gW ?_
 refine HQ.quo (z := (((l.n - 1) / 2 : Nat) : Int)) rfl rfl rfl (by decide) (by rw [show (2 : Int) = ((2 : Nat) : Int) from rfl, show ((l.n : Int) - 1) = (((l.n - 1 : Nat)) : Int) by omega, tdiv64, wr_i64 (by omega)]) rfl ?_
 refine gS ?_
 refine gC ?_
 by_cases hq : x.m.body.q.length = (l.n - 1) / 2 + 1
 ·refine H.Bv rfl (by omega) ?_
  refine gf ?_
  refine H.Ax (ι := Nat) (fun i => [(6, .int .i64 (i : Int)), (0, .pointer (some ⟨lb, 0, none⟩)), (3, .pointer (some ⟨mb, 0, none⟩)), (5, .pointer (some ⟨bb, 0, none⟩))]) (fun _ => f)
   (fun _ => row bb 45 (x.m.body.vals x.qp x.qc) :: row mb 47 x.vals :: row lb 200 (lgC l.n l.known vp V.length vc pp pc cp cc) :: slc vp V.length vc 195 4 (V.flatMap VV.vals) :: lst (V.map VV.own) :: fam (fun r => pstH (pb r) (l.past r)) l.n :: slc cp l.n cc 232 1 (chRow l cs) :: fam (chFam l cs) l.n :: F)
   (fun i => i ≤ x.m.body.q.length ∧ ∀ j p, j < i → x.m.body.q[j]? = some p → p.2 ≤ x.m.deps (p.1 - 1).toNat ∧ chB l p x.m.body.view = true) (fun i => x.m.body.q.length - i) 0 ⟨Nat.zero_le _, fun j p hj => by omega⟩ ⟨rfl, rfl, rfl, rfl, trivial⟩ rfl rfl fun i hi1 => ?_
  obtain ⟨hi1, hb⟩ : i ≤ x.m.body.q.length ∧ ∀ j p, j < i → x.m.body.q[j]? = some p → p.2 ≤ x.m.deps (p.1 - 1).toNat ∧ chB l p x.m.body.view = true := hi1
  show H _ _ _ [(6, .int .i64 (i : Int)), _, _, _] f (row bb 45 (x.m.body.vals x.qp x.qc) :: row mb 47 x.vals :: row lb 200 (lgC l.n l.known vp V.length vc pp pc cp cc) :: slc vp V.length vc 195 4 (V.flatMap VV.vals) :: lst (V.map VV.own) :: fam (fun r => pstH (pb r) (l.past r)) l.n :: slc cp l.n cc 232 1 (chRow l cs) :: fam (chFam l cs) l.n :: F) _
  by_cases hlt : i < x.m.body.q.length
  ·obtain ⟨p, hp⟩ : ∃ p, x.m.body.q[i]? = some p := ⟨_, List.getElem?_eq_getElem hlt⟩
   have hpm := List.mem_of_getElem? hp
   have hpq := hm.q p hpm
   obtain ⟨r, hre⟩ : ∃ r, r = (p.1 - 1).toNat := ⟨_, rfl⟩
   have hr : r < l.n := by omega
   have hr11 : r < 11 := by omega
   have hrz : p.1 - 1 = (r : Nat) := by omega
   obtain ⟨qb, qoff, qcs, qT, qfr, hqp, hqfb, hqcs⟩ := hqat i p hp
   have rd : ∀ A, Rd f A qb (qoff + i * 2) (pairV p) := fun A => Rd.imm hqfb hqcs
   have hch := fun G => changed_fn f G (lb := lb) (l := l) (kn := l.known) (vp := vp) (vl := V.length) (vc := vc) (pp := pp) (pc := pc) (cp := cp) (cc := cc) (cs := cs) hpq hn.2 (fun r => Nat.le_trans (hL.cl r) (by omega)) x.m.body.view
   refine gR ?_
   refine H.Az (by kernel_rfl) (by decide +kernel) (by repeat (first | exact zab | refine zaa ?_ | refine zac ?_ | refine zae ?_)) (S := [_, _]) rfl ?_
   refine HB.Ag [(0, false), (1, false), (2, false), (3, false), (4, false), (5, false), (6, false), (7, false), (8, false), (9, false), (10, false), (11, false), (12, false), (13, false), (14, false), (15, false), (16, false), (17, false), (18, false), (19, false), (20, false), (21, false), (22, false), (23, false), (24, false), (25, false)] 3 (by kernel_rfl) ?_
   refine gW ?_
   refine HQ.Ar (b := qb) (off := qoff) (i := i) rfl (by rw [← hqp]; rfl) rfl rfl hlt rfl ?_
   refine gE ?_
   refine HQ.Af rfl rfl rfl (Rd1.of (i := 1) (rd _) rfl) rfl ?_
   refine gW ?_
   refine HQ.Ar (b := qb) (off := qoff) (i := i) rfl (by rw [← hqp]; rfl) rfl rfl hlt rfl ?_
   refine gE ?_
   refine HQ.Af rfl rfl rfl (Rd1.of (i := 0) (rd _) rfl) rfl ?_
   refine gW ?_
   refine HQ.Aw (i := r) rfl rfl rfl hrz hr11 rfl ?_
   refine HQ.Af rfl rfl rfl (by rw [Nat.mul_one]; exact Rd1.of (zan (m := x.m) (q := x.qp) (qc := x.qc) (.there _ (.here _ _ _))) (zam x.m.deps hr11)) rfl ?_
   refine ge ?_
   by_cases h1 : p.2 ≤ x.m.deps r
   ·skip
    refine ge ?_
    refine HQ.Ar (b := qb) (off := qoff) (i := i) rfl (by rw [← hqp]; rfl) rfl rfl hlt rfl ?_
    refine HQ.Ah (ls := pairV p) rfl rfl rfl (rd _) rfl rfl ?_
    refine gW ?_
    refine HQ.Ae rfl ?_
    refine HB.ev1 (i := 26) (by kernel_rfl) rfl ?_
    refine H.Aa (x := fam (chFam l cs) _) (by repeat constructor) ?_
    refine H.Aa (x := slc cp _ cc _ _ _) (by repeat constructor) ?_
    refine H.Aa (x := row lb _ _) (by repeat constructor) ?_
    skip
    refine H.Ad rfl rfl rfl (hch _) ?_
    cases hcb : chB l p x.m.body.view with
    | true =>
     refine gC ?_
     refine H.Aa (x := fam (chFam l cs) _) (by repeat constructor) ?_
     refine H.Aa (x := slc cp _ cc _ _ _) (by repeat constructor) ?_
     refine H.Aa (x := fam (fun r => pstH _ _) _) (by repeat constructor) ?_
     refine H.Aa (x := lst (V.map VV.own)) (by repeat constructor) ?_
     refine H.Aa (x := slc vp _ vc _ _ _) (by repeat constructor) ?_
     refine H.Aa (x := row lb _ _) (by repeat constructor) ?_
     refine H.Aa (x := row mb _ _) (by repeat constructor) ?_
     refine H.Aa (x := row bb _ _) (by repeat constructor) ?_
     refine H.on0 rfl ?_
     refine HB.Ag [(27, false), (28, false)] 0 (by kernel_rfl) ?_
     refine gN ?_
     refine HQ.Ae rfl ?_
     refine HB.Al (by kernel_rfl) ?_
     refine gV ?_
     refine H.Am (i + 1) ⟨by show i + 1 ≤ x.m.body.q.length; omega, fun j y hj hy => ?_⟩ (by show x.m.body.q.length - (i + 1) < x.m.body.q.length - i; omega) ⟨rfl, rfl, rfl, rfl, trivial⟩ rfl rfl
     by_cases e : j = i
     ·subst e; rw [hp] at hy; cases hy; exact ⟨by rw [← hre]; exact h1, hcb⟩
     ·exact hb j y (by omega) hy
    | false =>
     refine gC ?_
     refine H.Aa (x := fam (chFam l cs) _) (by repeat constructor) ?_
     refine H.Aa (x := slc cp _ cc _ _ _) (by repeat constructor) ?_
     refine H.Aa (x := fam (fun r => pstH _ _) _) (by repeat constructor) ?_
     refine H.Aa (x := lst (V.map VV.own)) (by repeat constructor) ?_
     refine H.Aa (x := slc vp _ vc _ _ _) (by repeat constructor) ?_
     refine H.Aa (x := row lb _ _) (by repeat constructor) ?_
     refine H.Aa (x := row mb _ _) (by repeat constructor) ?_
     refine H.Aa (x := row bb _ _) (by repeat constructor) ?_
     refine H.on0 rfl ?_
     refine HB.Ag [(27, false), (28, false)] 0 (by kernel_rfl) ?_
     refine gN ?_
     refine HQ.Ae rfl ?_
     refine HB.Al (by kernel_rfl) ?_
     refine gG ?_
     refine H.Ab (x := row bb _ _) (by repeat constructor) ?_
     refine H.Ab (x := row mb _ _) (by repeat constructor) ?_
     refine H.imp (zai ⟨V, vp, vc, pp, pc, cp, cc, pb, cs⟩ hiF) ?_
     refine H.Ac rfl rfl (fun _ h => h) (LgP.no ?_)
     unfold Lgs.begins
     rw [if_neg (fun h => h hq), if_pos (List.all_eq_false.2 ⟨p, hpm, by rw [hcb, Bool.and_false]; decide⟩)]
   ·skip
    refine ge ?_
    refine HQ.Ae rfl ?_
    refine HB.ev1 (i := 26) (by kernel_rfl) rfl ?_
    refine gF ?_
    refine H.on0 rfl ?_
    refine HB.Ag [(27, false), (28, false)] 0 (by kernel_rfl) ?_
    refine gN ?_
    refine HQ.Ae rfl ?_
    refine HB.Al (by kernel_rfl) ?_
    refine gG ?_
    refine H.Ab (x := row bb _ _) (by repeat constructor) ?_
    refine H.Ab (x := row mb _ _) (by repeat constructor) ?_
    refine H.imp (zai ⟨V, vp, vc, pp, pc, cp, cc, pb, cs⟩ hiF) ?_
    refine H.Ac rfl rfl (fun _ h => h) (LgP.no ?_)
    unfold Lgs.begins
    rw [if_neg (fun h => h hq), if_pos (List.all_eq_false.2 ⟨p, hpm, by rw [← hre, decide_eq_false h1, Bool.false_and]; decide⟩)]
  ·have hall : (x.m.body.q.all fun q => decide (q.2 ≤ x.m.deps (q.1 - 1).toNat) && chB l q x.m.body.view) = true := List.all_eq_true.2 fun p hp => by
    obtain ⟨j, hj⟩ := List.getElem?_of_mem hp
    have hjl := (List.getElem?_eq_some_iff.1 hj).1
    obtain ⟨h1, h2⟩ := hb j p (by omega) hj
    rw [decide_eq_true h1, h2]
    rfl
   clear hb
   refine gR ?_
   refine H.Ax (ι := Nat × Int × Int) (fun s => [(9, .int .i64 (s.1 : Int)), (7, .int .u64 s.2.1), (8, .int .i64 s.2.2), (0, .pointer (some ⟨lb, 0, none⟩)), (3, .pointer (some ⟨mb, 0, none⟩)), (5, .pointer (some ⟨bb, 0, none⟩))]) (fun _ => f) (fun _ => row bb 45 (x.m.body.vals x.qp x.qc) :: row mb 47 x.vals :: row lb 200 (lgC l.n l.known vp V.length vc pp pc cp cc) :: slc vp V.length vc 195 4 (V.flatMap VV.vals) :: lst (V.map VV.own) :: fam (fun r => pstH (pb r) (l.past r)) l.n :: slc cp l.n cc 232 1 (chRow l cs) :: fam (chFam l cs) l.n :: F)
    (fun s => s.1 ≤ x.m.body.q.length ∧ bestQ l.past x.m.body.view (x.m.body.q.drop s.1) s.2 = bestQ l.past x.m.body.view x.m.body.q (0, 0)) (fun s => x.m.body.q.length - s.1) (0, 0, 0) ⟨Nat.zero_le _, rfl⟩ ⟨rfl, rfl, rfl, rfl, rfl, rfl, trivial⟩ rfl rfl fun s hs => ?_
   obtain ⟨i, u, long⟩ := s
   obtain ⟨hi1, hbq⟩ : i ≤ x.m.body.q.length ∧ bestQ l.past x.m.body.view (x.m.body.q.drop i) (u, long) = bestQ l.past x.m.body.view x.m.body.q (0, 0) := hs
   show H _ _ _ [(9, .int .i64 (i : Int)), (7, .int .u64 u), (8, .int .i64 long), _, _, _] f (row bb 45 (x.m.body.vals x.qp x.qc) :: row mb 47 x.vals :: row lb 200 (lgC l.n l.known vp V.length vc pp pc cp cc) :: slc vp V.length vc 195 4 (V.flatMap VV.vals) :: lst (V.map VV.own) :: fam (fun r => pstH (pb r) (l.past r)) l.n :: slc cp l.n cc 232 1 (chRow l cs) :: fam (chFam l cs) l.n :: F) _
   obtain ⟨pbb, poff, hpp0, rdp0⟩ := hiF.past (by show 0 < l.n; omega)
   have hpp : pp = some ⟨pbb, poff, none⟩ := hpp0
   have rdp : ∀ {A : List HP} {r : Nat}, r < l.n → Rd1 f A pbb (poff + r) (.pointer (some ⟨pb r, 0, none⟩)) := fun {A r} hr => rdp0 (Le.refl f) hr
   clear hpp0 rdp0
   by_cases hlt2 : i < x.m.body.q.length
   ·obtain ⟨p, hp⟩ : ∃ p, x.m.body.q[i]? = some p := ⟨_, List.getElem?_eq_getElem hlt2⟩
    have hpm := List.mem_of_getElem? hp
    have hpq := hm.q p hpm
    obtain ⟨r, hre⟩ : ∃ r, r = (p.1 - 1).toNat := ⟨_, rfl⟩
    have hr : r < l.n := by omega
    have hrz : p.1 - 1 = (r : Nat) := by omega
    obtain ⟨qb, qoff, qcs, qT, qfr, hqp, hqfb, hqcs⟩ := hqat i p hp
    have rd : ∀ A, Rd f A qb (qoff + i * 2) (pairV p) := fun A => Rd.imm hqfb hqcs
    rw [show x.m.body.q.drop i = p :: x.m.body.q.drop (i + 1) by rw [List.drop_eq_getElem_cons hlt2, (List.getElem?_eq_some_iff.1 hp).2]] at hbq
    rw [bestQ_cons] at hbq
    rw [← hre] at hbq
    have hwf := hL.wf r hr
    have hil := hL.il r hr
    have halen := all_len (l.past r)
    refine gR ?_
    refine H.Bg (by kernel_rfl) (by decide +kernel) (by repeat (first | exact zab | refine zaa ?_ | refine zac ?_ | refine zae ?_)) ?_
    refine gW ?_
    refine HQ.Ar (b := qb) (off := qoff) (i := i) rfl (by rw [← hqp]; rfl) rfl rfl hlt2 rfl ?_
    refine gE ?_
    refine HQ.Af rfl rfl rfl (Rd1.of (i := 0) (rd _) rfl) rfl ?_
    refine gS ?_
    refine HQ.Ar (b := pbb) (off := poff) (i := r) rfl (by rw [← hpp]; rfl) rfl hrz hr rfl ?_
    refine HQ.Af rfl rfl rfl (by rw [Nat.mul_one]; exact rdp hr) rfl ?_
    refine gS ?_
    refine H.Aa (x := fam (fun r => pstH _ _) _) (by repeat constructor) ?_
    refine H.Cj hr ?_
    refine pstH_openH fun eb ec => ?_
    refine H.Aa (x := row bb _ _) (by repeat constructor) ?_
    refine gf ?_
    refine H.Ax (ι := Nat × Int × Int) (fun s => [(11, .int .i64 (s.1 : Int)), (7, .int .u64 s.2.1), (8, .int .i64 s.2.2), (10, .pointer (some ⟨pb r, 0, none⟩)), (9, .int .i64 (i : Int)), (0, .pointer (some ⟨lb, 0, none⟩)), (3, .pointer (some ⟨mb, 0, none⟩)), (5, .pointer (some ⟨bb, 0, none⟩))]) (fun _ => f)
     (fun _ => row bb 45 (x.m.body.vals x.qp x.qc) :: row (pb r) 231 [.int .u64 (l.past r).g, .slice (some ⟨eb, 0, none⟩) ((l.past r).init.length + 1) ec] :: slc (some ⟨eb, 0, none⟩) ((l.past r).init.length + 1) ec 228 2 (flatV voteV (l.past r).all) :: fam (updF (fun r => pstH (pb r) (l.past r)) r emp) l.n :: row mb 47 x.vals :: row lb 200 (lgC l.n l.known vp V.length vc pp pc cp cc) :: slc vp V.length vc 195 4 (V.flatMap VV.vals) :: lst (V.map VV.own) :: slc cp l.n cc 232 1 (chRow l cs) :: fam (chFam l cs) l.n :: F)
     (fun s => s.1 ≤ (l.past r).all.length ∧ bestOf x.m.body.view ((l.past r).all.drop s.1) s.2 = bestOf x.m.body.view (l.past r).all (u, long)) (fun s => (l.past r).all.length - s.1) (0, u, long) ⟨Nat.zero_le _, rfl⟩ ⟨rfl, rfl, rfl, rfl, rfl, rfl, rfl, rfl, trivial⟩ rfl rfl fun s hs => ?_
    obtain ⟨k, u2, long2⟩ := s
    obtain ⟨hk1, hbo⟩ : k ≤ (l.past r).all.length ∧ bestOf x.m.body.view ((l.past r).all.drop k) (u2, long2) = bestOf x.m.body.view (l.past r).all (u, long) := hs
    show H _ _ _ [(11, .int .i64 (k : Int)), (7, .int .u64 u2), (8, .int .i64 long2), _, _, _, _, _] f (_ :: _ :: _ :: _ :: _ :: _ :: _ :: _ :: _ :: _ :: F) _
    by_cases hk : k < (l.past r).all.length
    ·obtain ⟨w, hw⟩ : ∃ w, (l.past r).all[k]? = some w := ⟨_, List.getElem?_eq_getElem hk⟩
     rw [show (l.past r).all.drop k = w :: (l.past r).all.drop (k + 1) by rw [List.drop_eq_getElem_cons hk, (List.getElem?_eq_some_iff.1 hw).2]] at hbo
     rw [bestOf_cons] at hbo
     refine gR ?_
     refine H.Ar (i := k) rfl rfl rfl rfl (by omega) rfl ?_
     refine H.Ah (ls := voteV w) rfl rfl rfl (by rw [Nat.zero_add]; exact Rd.slcElem (vals := voteV) (xs := (l.past r).all) voteV_len (by decide) (by rw [← flatV_flat]; exact .there _ (.there _ (.here _ _ _))) hw) rfl rfl ?_
     refine H.Au (ls := voteV (0, 0)) rfl rfl rfl fun wb => ?_
     refine H.Ak (ls := voteV (0, 0)) (vs := voteV w) (ls' := voteV w) rfl rfl rfl (zad rfl) rfl rfl (Nat.le_refl 2) (.here _ _ _) ?_
     by_cases h1 : w.1 < x.m.body.view
     ·by_cases h2 : u2 < w.1
      ·rw [if_pos ⟨h1, .inl h2⟩] at hbo
       refine gU ?_
       refine H.Ab (x := row wb _ _) (by repeat constructor) ?_
       exact H.Am (k + 1, w.1, w.2) ⟨by show k + 1 ≤ (l.past r).all.length; omega, hbo⟩ (by show (l.past r).all.length - (k + 1) < (l.past r).all.length - k; omega) ⟨rfl, rfl, rfl, rfl, rfl, rfl, rfl, rfl, trivial⟩ rfl rfl
      ·by_cases h3 : w.1 = u2
       ·by_cases h4 : long2 < w.2
        ·rw [if_pos ⟨h1, .inr ⟨h3, h4⟩⟩] at hbo
         refine gZ ?_
         refine H.Ab (x := row wb _ _) (by repeat constructor) ?_
         exact H.Am (k + 1, w.1, w.2) ⟨by show k + 1 ≤ (l.past r).all.length; omega, hbo⟩ (by show (l.past r).all.length - (k + 1) < (l.past r).all.length - k; omega) ⟨rfl, rfl, rfl, rfl, rfl, rfl, rfl, rfl, trivial⟩ rfl rfl
        ·rw [if_neg (by rintro ⟨_, h | ⟨_, h⟩⟩; exact h2 h; exact h4 h)] at hbo
         refine gZ ?_
         refine H.Ab (x := row wb _ _) (by repeat constructor) ?_
         exact H.Am (k + 1, u2, long2) ⟨by show k + 1 ≤ (l.past r).all.length; omega, hbo⟩ (by show (l.past r).all.length - (k + 1) < (l.past r).all.length - k; omega) ⟨rfl, rfl, rfl, rfl, rfl, rfl, rfl, rfl, trivial⟩ rfl rfl
       ·rw [if_neg (by rintro ⟨_, h | ⟨h, _⟩⟩; exact h2 h; exact h3 h)] at hbo
        refine gZ ?_
        refine H.Ab (x := row wb _ _) (by repeat constructor) ?_
        exact H.Am (k + 1, u2, long2) ⟨by show k + 1 ≤ (l.past r).all.length; omega, hbo⟩ (by show (l.past r).all.length - (k + 1) < (l.past r).all.length - k; omega) ⟨rfl, rfl, rfl, rfl, rfl, rfl, rfl, rfl, trivial⟩ rfl rfl
     ·rw [if_neg (fun h => h1 h.1)] at hbo
      refine ga ?_
      refine H.Ab (x := row wb _ _) (by repeat constructor) ?_
      exact H.Am (k + 1, u2, long2) ⟨by show k + 1 ≤ (l.past r).all.length; omega, hbo⟩ (by show (l.past r).all.length - (k + 1) < (l.past r).all.length - k; omega) ⟨rfl, rfl, rfl, rfl, rfl, rfl, rfl, rfl, trivial⟩ rfl rfl
    ·have e : k = (l.past r).all.length := by omega
     subst e
     rw [List.drop_length] at hbo
     have hbo : (u2, long2) = bestOf x.m.body.view (l.past r).all (u, long) := hbo
     rw [← hbo] at hbq
     refine gX ?_
     refine H.Aa (x := fam (updF _ _ _) _) (by repeat constructor) ?_
     refine H.Aa (x := slc (some ⟨eb, 0, none⟩) _ ec _ _ _) (by repeat constructor) ?_
     refine H.Aa (x := row (pb r) _ _) (by repeat constructor) ?_
     refine H.imp (zao (b := pb r) (eb := eb) (ec := ec) (s := l.past r)) ?_
     refine H.Ck (g := fun r => pstH (pb r) (l.past r)) hr ?_
     refine H.Aa (x := fam (chFam l cs) _) (by repeat constructor) ?_
     refine H.Aa (x := slc cp _ cc _ _ _) (by repeat constructor) ?_
     refine H.Aa (x := fam (fun r => pstH _ _) _) (by repeat constructor) ?_
     refine H.Aa (x := lst (V.map VV.own)) (by repeat constructor) ?_
     refine H.Aa (x := slc vp _ vc _ _ _) (by repeat constructor) ?_
     refine H.Aa (x := row lb _ _) (by repeat constructor) ?_
     refine H.Aa (x := row mb _ _) (by repeat constructor) ?_
     refine H.Aa (x := row bb _ _) (by repeat constructor) ?_
     exact H.Am (i + 1, u2, long2) ⟨by show i + 1 ≤ x.m.body.q.length; omega, hbq⟩ (by show x.m.body.q.length - (i + 1) < x.m.body.q.length - i; omega) ⟨rfl, rfl, rfl, rfl, rfl, rfl, trivial⟩ rfl rfl
   ·have e : i = x.m.body.q.length := by omega
    subst e
    rw [List.drop_length] at hbq
    have hbq : (u, long) = bestQ l.past x.m.body.view x.m.body.q (0, 0) := hbq
    have hbest := hL.best hm
    rw [← hbq] at hbest
    obtain ⟨vi, w, hv1, hv2, hlo, hhi⟩ : ∃ i w, vwAt l.vs u = some i ∧ l.vs[i]? = some w ∧ 0 ≤ long ∧ long ≤ (w.all.length : Int) := hbest
    obtain ⟨X, hX, rfl⟩ := hiF.of hv2
    have hX : V[vi]? = some X := hX
    have hXm := List.mem_of_getElem? hX
    have hvi := (List.getElem?_eq_some_iff.1 hX).1
    have hvs : V.map VV.w = l.vs := hi.vs
    have hVl : V.length = l.vs.length := hi.len
    have hvl := hL.vl
    have hXs : ListAt fl X.sp 40 Req.vals X.w.s := hi.s X hXm
    have hXl := hL.al X.w (by rw [← hvs]; exact List.mem_map_of_mem hXm)
    have hXa := X.w.all_len
    have hview := fun G => lgview_fn f G (lb := lb) (n := l.n) (kn := l.known) (V := V) (vp := vp) (vc := vc) (pp := pp) (pc := pc) (cp := cp) (cc := cc) (by omega) u
    rw [show vwZ (V.map VV.w) u = (vi : Int) by unfold vwZ; rw [hvs, hv1]] at hview
    obtain ⟨ln, hln⟩ : ∃ ln : Nat, long = (ln : Int) := ⟨long.toNat, by omega⟩
    subst hln
    obtain ⟨r0, hr0e⟩ : ∃ r0, r0 = orgI x.m := ⟨_, rfl⟩
    have hor := hm.o
    have hr0 : r0 < l.n := by rw [hr0e]; unfold orgI; omega
    have hr0z : x.m.origin - 1 = (r0 : Nat) := by rw [hr0e]; unfold orgI; omega
    have hwf := hL.wf r0 hr0
    have hil := hL.il r0 hr0
    refine H.Aa (x := slc vp _ vc _ _ _) (by repeat constructor) ?_
    refine H.Aa (x := row lb _ _) (by repeat constructor) ?_
    refine gR ?_
    refine H.Bq (p := vp) (n0 := V.length) (c := vc) (.there _ (.here _ _ _)) (by omega) fun vb hvb => ?_
    subst hvb
    refine H.Az (by kernel_rfl) (by decide +kernel) (by repeat (first | exact zab | refine zaa ?_ | refine zac ?_ | refine zae ?_)) (S := [_, _]) rfl ?_
    refine HB.Ag [(0, false), (1, false), (2, false), (3, false), (4, false), (5, false), (10, false)] 6 (by kernel_rfl) ?_
    refine gW ?_
    refine HQ.Ae rfl ?_
    refine HB.ev1 (i := 6) (by kernel_rfl) rfl ?_
    refine H.Ad rfl rfl rfl (hview _) ?_
    refine gC ?_
    refine H.on0 rfl ?_
    refine HB.Ag [(7, false), (8, false)] 3 (by kernel_rfl) ?_
    skip
    refine HQ.Ar (i := vi) rfl rfl rfl rfl hvi rfl ?_
    refine HQ.Ah (ls := X.vals) rfl rfl rfl (by rw [Nat.zero_add]; exact Rd.slcElem VV.len (by decide) (.there _ (.here _ _ _)) hX) rfl rfl ?_
    refine HQ.Ae rfl ?_
    refine HB.ev1 (i := 9) (by kernel_rfl) rfl ?_
    refine H.Aa (x := lst (V.map VV.own)) (by repeat constructor) ?_
    refine H.lstPull (x := X.own) (i := vi) (by rw [List.getElem?_map, hX]; rfl) ?_
    refine H.callE rfl rfl rfl (all_fn f _ hfl hXs (by omega)) fun ap => ?_
    obtain ⟨qp, qc⟩ := ap
    refine gC ?_
    refine H.slc_cap (p := qp) (c := qc) (.here _ _ _) fun hcap _ _ => ?_
    refine H.Aa (x := lst ((V.map VV.own).set vi emp)) (by repeat constructor) ?_
    refine H.Aa (x := X.own) (by repeat constructor) ?_
    refine H.lstBack (xs := V.map VV.own) (i := vi) (by rw [List.getElem?_map, hX]; rfl) ?_
    refine H.Aa (x := slc (some ⟨vb, 0, none⟩) _ vc _ _ _) (by repeat constructor) ?_
    refine H.Aa (x := row lb _ _) (by repeat constructor) ?_
    refine H.on0 rfl ?_
    refine HB.Ag [(11, false), (12, false)] 0 (by kernel_rfl) ?_
    refine HQ.slice (lo := none) (hi := some (.tmp 138)) (mx := none) (lv := 0) (hv := ln) (mv := qc) rfl rfl rfl ⟨_, _, rfl, rfl⟩ rfl (fun h => by cases h) (Nat.zero_le _) (by omega) (Nat.le_refl _) rfl ?_
    rw [slP0, Nat.sub_zero, Nat.sub_zero]
    refine gD ?_
    refine HQ.Ae rfl ?_
    refine HB.Al (by kernel_rfl) ?_
    refine gC ?_
    refine H.Aa (x := row bb _ _) (by repeat constructor) ?_
    refine H.Aa (x := row mb _ _) (by repeat constructor) ?_
    refine H.Aa (x := row lb _ _) (by repeat constructor) ?_
    refine H.Az (by kernel_rfl) (by decide +kernel) (by repeat (first | exact zab | refine zaa ?_ | refine zac ?_ | refine zae ?_)) (S := [_, _, _]) rfl ?_
    refine HB.Ag [(0, false), (1, false), (2, false), (3, false), (4, false), (5, false), (6, false), (7, false), (8, false), (9, false), (10, false), (11, false)] 2 (by kernel_rfl) ?_
    refine gW ?_
    refine HQ.Ar (b := pbb) (off := poff) (i := r0) rfl (by rw [← hpp]; rfl) rfl hr0z hr0 rfl ?_
    refine HQ.Af rfl rfl rfl (by rw [Nat.mul_one]; exact rdp hr0) rfl ?_
    refine gW ?_
    refine HQ.Ae rfl ?_
    refine HB.ev1 (i := 12) (by kernel_rfl) rfl ?_
    refine H.Aa (x := fam (fun r => pstH _ _) _) (by repeat constructor) ?_
    refine H.Cj hr0 ?_
    have hent := fun G => pst_enter f G (pb r0) (l.past r0) hwf (by omega) x.m.body.view (ln : Int)
    refine H.Ad rfl rfl rfl (hent _) ?_
    cases hek : (l.past r0).enterOk x.m.body.view ln with
    | false =>
     rw [show (l.past r0).enter x.m.body.view ln = l.past r0 by unfold PM.enter; rw [hek]; rfl]
     refine H.Ck (g := fun r => pstH (pb r) (l.past r)) hr0 ?_
     refine gC ?_
     refine H.Aa (x := row bb _ _) (by repeat constructor) ?_
     refine H.Aa (x := row mb _ _) (by repeat constructor) ?_
     refine H.Aa (x := row lb _ _) (by repeat constructor) ?_
     refine H.on0 rfl ?_
     refine HB.Ag [(13, false)] 0 (by kernel_rfl) ?_
     refine gN ?_
     refine HQ.Ae rfl ?_
     refine HB.Al (by kernel_rfl) ?_
     refine gG ?_
     refine H.Ab (x := slc qp _ qc _ _ _) (by repeat constructor) ?_
     refine H.Aa (x := fam (chFam l cs) _) (by repeat constructor) ?_
     refine H.Aa (x := slc cp _ cc _ _ _) (by repeat constructor) ?_
     refine H.Aa (x := fam (fun r => pstH _ _) _) (by repeat constructor) ?_
     refine H.Aa (x := lst (V.map VV.own)) (by repeat constructor) ?_
     refine H.Aa (x := slc (some ⟨vb, 0, none⟩) _ vc _ _ _) (by repeat constructor) ?_
     refine H.Aa (x := row lb _ _) (by repeat constructor) ?_
     refine H.Ab (x := row bb _ _) (by repeat constructor) ?_
     refine H.Ab (x := row mb _ _) (by repeat constructor) ?_
     refine H.imp (zai ⟨V, some ⟨vb, 0, none⟩, vc, pp, pc, cp, cc, pb, cs⟩ hiF) ?_
     refine H.Ac rfl rfl (fun _ h => h) (LgP.no ?_)
     unfold Lgs.begins
     rw [if_neg (fun h => h hq), if_neg (by rw [hall]; decide), ← hbq, ← hr0e, hek, if_pos rfl]
    | true =>
     refine H.famPut (g := fun r => pstH (pb r) (l.past r)) hr0 ?_
     rw [pst_updF]
     refine gC ?_
     refine H.Aa (x := row bb _ _) (by repeat constructor) ?_
     refine H.Aa (x := row mb _ _) (by repeat constructor) ?_
     refine H.Aa (x := row lb _ _) (by repeat constructor) ?_
     refine H.on0 rfl ?_
     refine HB.Ag [(13, false)] 0 (by kernel_rfl) ?_
     refine gN ?_
     refine HQ.Ae rfl ?_
     refine HB.Al (by kernel_rfl) ?_
     obtain ⟨NV, hNV⟩ : ∃ NV : VV, NV = ⟨⟨x.m.body.view, x.m.number, X.w.all.take ln, []⟩, qp, qc, none, 0⟩ := ⟨_, rfl⟩
     have htl : (X.w.all.take ln).length = ln := by rw [List.length_take]; omega
     have hNVv : NV.vals = [.int .u64 x.m.body.view, .int .u64 x.m.number, .slice qp ln qc, .slice none 0 0] := by
      rw [hNV]
      show [_, _, Value.slice qp (X.w.all.take ln).length qc, _] = _
      rw [htl]
      rfl
     refine gc ?_
     refine H.Au (ls := [.int .u64 0, .int .u64 0, .slice none 0 0, .slice none 0 0]) rfl rfl rfl fun wb => ?_
     refine H.Ak (ls := [.int .u64 0, .int .u64 0, .slice none 0 0, .slice none 0 0]) (vs := [.int .u64 x.m.body.view, .int .u64 x.m.number, .slice qp ln qc, .slice none 0 0]) (ls' := [.int .u64 x.m.body.view, .int .u64 x.m.number, .slice qp ln qc, .slice none 0 0]) rfl rfl rfl (zad rfl) rfl rfl (Nat.le_refl 4) (.here _ _ _) ?_
     rw [← hNVv]
     refine gC ?_
     refine H.freeze (x := slc qp _ qc _ _ _) (by repeat constructor) fun g hg hd => ?_
     have hSat : ListAt (un f g) qp 40 Req.vals (X.w.all.take ln) := ((zbl Req.len hg).mono (Le.right hd)).takeL ln
     have hbeg : l.begins x.m = (true, { l with past := updF l.past r0 ((l.past r0).enter x.m.body.view ln), vs := insV NV.w l.vs }) := by
      unfold Lgs.begins
      rw [if_neg (fun h => h hq), if_neg (by rw [hall]; decide), ← hbq, ← hr0e]
      show (if (l.past r0).enterOk x.m.body.view ln = false then (false, l) else _) = _
      rw [if_neg (by rw [hek]; decide)]
      show (true, ({ l with past := _, vs := insV ⟨_, _, (match vwAt l.vs u with | none => [] | some i => (l.vs[i]?.map Vw.all).getD []).take ((ln : Int)).toNat, []⟩ l.vs } : Lgs)) = _
      rw [hv1]
      show (true, ({ l with past := _, vs := insV ⟨_, _, ((l.vs[vi]?.map Vw.all).getD []).take ((ln : Int)).toNat, []⟩ l.vs } : Lgs)) = _
      rw [hv2, Int.toNat_natCast, hNV]
      rfl
     have hbeg1 : (l.begins x.m).1 = true := by rw [hbeg]
     have hNVo : VV.own NV = emp := by
      rw [hNV]
      exact slc_emp _ _
     have hle2 := Le.un f g
     have hiG := hiF.mono hle2
     refine H.Aa (x := row lb _ _) (by repeat constructor) ?_
     refine H.Aa (x := row wb _ _) (by repeat constructor) ?_
     refine H.Bu [0, 1, 2, 3, 4, 5, 6, 7] (by kernel_rfl) (by decide +kernel) (by repeat (first | exact zab | refine zaa ?_ | refine zac ?_ | refine zae ?_)) (S := [_, _]) rfl ?_
     refine HB.Ag [(0, false), (1, false), (2, false), (3, false), (4, false), (5, false)] 5 (by kernel_rfl) ?_
     refine gW ?_
     refine HQ.Ah (ls := NV.vals) rfl rfl rfl (Rd.ofRow (.here _ _ _)) rfl rfl ?_
     refine HQ.Ae rfl ?_
     refine HB.ev1 (i := 6) (by kernel_rfl) rfl ?_
     refine H.Bb (out := NV.vals) rfl rfl rfl rfl (by decide) (by decide) rfl rfl fun eb => ?_
     refine gC ?_
     refine H.Aa (x := row lb _ _) (by repeat constructor) ?_
     refine H.Aa (x := row wb _ _) (by repeat constructor) ?_
     refine H.on0 rfl ?_
     refine HB.ev1 (i := 7) (by kernel_rfl) rfl ?_
     refine H.Bd (sz := 4) (p := some ⟨vb, 0, none⟩) (n0 := V.length) (c := vc) (xs := V.flatMap VV.vals) (m := 1) (news := NV.vals) rfl rfl rfl rfl rfl (fun p' c' => (by repeat constructor)) (Src.slice (Rd.ofRow (by repeat constructor)) rfl) (zad rfl) rfl (by omega) (by omega) fun p2 c2 => ?_
     refine gC ?_
     refine H.Ab (x := row eb _ _) (by repeat constructor) ?_
     refine H.on0 rfl ?_
     refine HB.next [] (by kernel_rfl) (S' := []) rfl ?_
     refine HB.Ag [(8, false), (9, false)] 1 (by kernel_rfl) ?_
     refine gW ?_
     refine HQ.Ae rfl ?_
     refine HB.ev1 (i := 10) (by kernel_rfl) rfl ?_
     refine H.Bj (ls := lgC l.n l.known (some ⟨vb, 0, none⟩) V.length vc pp pc cp cc) (ls' := lgC l.n l.known p2 (V.length + 1) c2 pp pc cp cc) rfl rfl rfl rfl (.there _ (.here _ _ _)) (by repeat (first | exact .here _ _ _ | apply SetV.there)) ?_
     refine gC ?_
     refine H.on0 rfl ?_
     refine HB.Al (by kernel_rfl) ?_
     refine gf ?_
     refine H.Ab (x := row mb _ _) (by repeat constructor) ?_
     refine H.Aa (x := fam (chFam l cs) _) (by repeat constructor) ?_
     refine H.Aa (x := slc cp _ cc _ _ _) (by repeat constructor) ?_
     refine H.Aa (x := fam (fun r => pstH _ _) _) (by repeat constructor) ?_
     refine H.Aa (x := lst (V.map VV.own)) (by repeat constructor) ?_
     refine H.Aa (x := slc p2 _ c2 _ _ _) (by repeat constructor) ?_
     refine H.Aa (x := row lb _ _) (by repeat constructor) ?_
     refine H.Aa (x := row bb _ _) (by repeat constructor) ?_
     refine H.Aa (x := row wb _ _) (by repeat constructor) ?_
     have hfin : ∀ K, K ≤ V.length → K = insK x.m.body.view l.vs → ∀ z, stars (row lb 200 (lgC l.n l.known p2 (V.length + 1) c2 pp pc cp cc) :: slc p2 (V.length + 1) c2 195 4 ((V.take K ++ NV :: V.drop K).flatMap VV.vals) :: lst (V.map VV.own) :: fam (fun r => pstH (pb r) (updF l.past r0 ((l.past r0).enter x.m.body.view ln) r)) l.n :: slc cp l.n cc 232 1 (chRow l cs) :: fam (chFam l cs) l.n :: F) z → stars (logsH (un f g) lb (l.begins x.m).2 :: F) z := fun K hK hKi z hz => by
      have hlst : lst ((V.take K ++ NV :: V.drop K).map VV.own) = lst (V.map VV.own) := by
       show stars ((V.take K ++ NV :: V.drop K).map VV.own) = stars (V.map VV.own)
       have hp : (NV.own :: V.map VV.own).Perm ((V.take K ++ NV :: V.drop K).map VV.own) := by
        conv => lhs; rw [← List.take_append_drop K V]
        exact (List.perm_middle.symm).map VV.own
       rw [← lst_perm hp, hNVo]
       exact emp_star _
      have hmap : (V.take K ++ NV :: V.drop K).map VV.w = insV NV.w l.vs := by
       have e : insK NV.w.v l.vs = K := by rw [hNV]; exact hKi.symm
       unfold insV
       rw [e, ← hvs, List.map_append, List.map_cons, List.map_take, List.map_drop]
      rw [hbeg]
      refine zai (l := { l with past := updF l.past r0 ((l.past r0).enter x.m.body.view ln), vs := insV NV.w l.vs }) ⟨V.take K ++ NV :: V.drop K, p2, c2, pp, pc, cp, cc, pb, cs⟩ ⟨hmap, fun y hy => ?_, hiG.p⟩ z ?_
      ·rcases List.mem_append.1 hy with h | h
       ·exact hiG.s y (List.mem_of_mem_take h)
       ·rcases List.mem_cons.1 h with h | h
        ·rw [h, hNV]; exact hSat
        ·exact hiG.s y (List.mem_of_mem_drop h)
      ·show stars (row lb _ (lgC l.n l.known p2 (V.take K ++ NV :: V.drop K).length c2 pp pc cp cc) :: slc p2 (V.take K ++ NV :: V.drop K).length c2 _ 4 _ :: lst ((V.take K ++ NV :: V.drop K).map VV.own) :: _) z
       rw [ins_len hK, hlst]
       exact hz
     refine H.Ax (ι := Nat × VV) (fun s => [(14, .int .i64 (s.1 : Int)), (15, .pointer (some ⟨wb, 0, none⟩)), (0, .pointer (some ⟨lb, 0, none⟩)), (5, .pointer (some ⟨bb, 0, none⟩))]) (fun _ => un f g)
      (fun s => row wb 195 NV.vals :: row bb 45 (x.m.body.vals x.qp x.qc) :: row lb 200 (lgC l.n l.known p2 (V.length + 1) c2 pp pc cp cc) :: slc p2 (V.length + 1) c2 195 4 ((V.take s.1 ++ s.2 :: V.drop s.1).flatMap VV.vals) :: lst (V.map VV.own) :: fam (fun r => pstH (pb r) (updF l.past r0 ((l.past r0).enter x.m.body.view ln) r)) l.n :: slc cp l.n cc 232 1 (chRow l cs) :: fam (chFam l cs) l.n :: F)
      (fun s => s.1 ≤ V.length ∧ insKF x.m.body.view l.vs s.1 = insK x.m.body.view l.vs) (fun s => s.1) (V.length, NV) ⟨Nat.le_refl _, by show insKF _ _ V.length = _; rw [hVl]; rfl⟩ ⟨rfl, rfl, rfl, rfl, trivial⟩ rfl (by simp) fun s hs => ?_
     obtain ⟨k, y⟩ := s
     obtain ⟨hk, hins⟩ : k ≤ V.length ∧ insKF x.m.body.view l.vs k = insK x.m.body.view l.vs := hs
     show H _ _ _ [(14, .int .i64 (k : Int)), _, _, _] (un f g) (_ :: _ :: _ :: slc p2 (V.length + 1) c2 _ 4 ((V.take k ++ y :: V.drop k).flatMap VV.vals) :: _ :: _ :: _ :: _ :: F) _
     have hil2 := ins_len (V := V) (y := y) hk
     refine H.Bq (p := p2) (n0 := V.length + 1) (c := c2) (.there _ (.there _ (.there _ (.here _ _ _)))) (by omega) fun vb2 hvb2 => ?_
     subst hvb2
     by_cases h0 : k = 0
     ·have hins2 : k = insK x.m.body.view l.vs := by
       rw [h0] at hins
       rw [h0]
       exact hins
      refine gC ?_
      refine H.Bg (by kernel_rfl) (by decide +kernel) (by repeat (first | exact zab | refine zaa ?_ | refine zac ?_ | refine zae ?_)) ?_
      refine ge ?_
      refine gV ?_
      refine H.Aa (x := row lb _ _) (by repeat constructor) ?_
      refine H.Aa (x := row wb _ _) (by repeat constructor) ?_
      refine H.Bu [0, 1, 2, 3, 4, 5, 6] (by kernel_rfl) (by decide +kernel) (by repeat (first | exact zab | refine zaa ?_ | refine zac ?_ | refine zae ?_)) (S := [_, _]) rfl ?_
      refine HB.Ag [(0, false), (1, false), (2, false), (3, false), (4, false), (5, false), (6, false)] 1 (by kernel_rfl) ?_
      refine gW ?_
      refine HQ.Ah (ls := NV.vals) rfl rfl rfl (Rd.ofRow (.here _ _ _)) rfl rfl ?_
      refine HQ.Cf (i := k) rfl rfl rfl rfl (by omega) rfl ?_
      refine HQ.Ae rfl ?_
      refine HB.next [] (by kernel_rfl) (S' := []) rfl ?_
      refine HB.ev1 (i := 7) (by kernel_rfl) rfl ?_
      refine H.storeE (vals := VV.vals) (xs := V.take k ++ y :: V.drop k) (i := k) (z := NV) VV.len (by decide) (zad rfl) rfl rfl rfl (by omega) (by repeat constructor) ?_
      rw [ins_last hk]
      refine gC ?_
      refine H.on0 rfl ?_
      refine HB.Al (by kernel_rfl) ?_
      refine gf ?_
      refine H.Ab (x := row wb _ _) (by repeat constructor) ?_
      refine H.Ab (x := row bb _ _) (by repeat constructor) ?_
      refine H.imp (hfin _ hk hins2) ?_
      exact H.Ac rfl rfl (fun _ h => h) ⟨g, hd, by rw [hbeg1], rfl, rfl⟩
     ·obtain ⟨j, hj⟩ : ∃ j, k = j + 1 := ⟨k - 1, by omega⟩
      obtain ⟨z, hz⟩ : ∃ z, V[j]? = some z := ⟨_, List.getElem?_eq_getElem (by omega)⟩
      have hzg : (V.take k ++ y :: V.drop k)[j]? = some z := by rw [ins_get (by omega) hk]; exact hz
      have hvz : l.vs[j]? = some z.w := hiF.at hz
      have hstep : insKF x.m.body.view l.vs k = if x.m.body.view < z.w.v then insKF x.m.body.view l.vs j else k := by
       rw [hj]
       show (match l.vs[j]? with | none => j + 1 | some x_1 => if x.m.body.view < x_1.v then insKF x.m.body.view l.vs j else j + 1) = _
       rw [hvz]
      rw [hstep] at hins
      clear hstep
      refine gC ?_
      refine H.Bg (by kernel_rfl) (by decide +kernel) (by repeat (first | exact zab | refine zaa ?_ | refine zac ?_ | refine zae ?_)) ?_
      refine ge ?_
      refine HQ.Ar (i := j) rfl rfl rfl (by omega) (by omega) rfl ?_
      refine gE ?_
      refine HQ.Af rfl rfl rfl (Rd1.of (i := 0) (by rw [Nat.zero_add]; exact Rd.slcElem VV.len (by decide) (.there _ (.there _ (.there _ (.here _ _ _)))) hzg) rfl) rfl ?_
      refine ge ?_
      by_cases hlv : x.m.body.view < z.w.v
      ·rw [if_pos hlv] at hins
       refine gL ?_
       refine H.Aa (x := slc (some ⟨vb2, 0, none⟩) _ c2 _ _ _) (by repeat constructor) ?_
       refine H.Aa (x := row lb _ _) (by repeat constructor) ?_
       refine H.Bu [0, 1, 2, 3, 4, 5, 6, 7, 8, 9, 10, 11, 12, 13] (by kernel_rfl) (by decide +kernel) (by repeat (first | exact zab | refine zaa ?_ | refine zac ?_ | refine zae ?_)) (S := [_, _]) rfl ?_
       refine HB.Ag [(0, false), (1, false), (2, false), (3, false), (4, false), (5, false), (6, false), (7, false), (8, false), (9, false), (10, false), (11, false), (12, false), (13, false)] 1 (by kernel_rfl) ?_
       refine gW ?_
       refine HQ.Ar (i := j) rfl rfl rfl (by omega) (by omega) rfl ?_
       refine HQ.Ah (ls := z.vals) rfl rfl rfl (by rw [Nat.zero_add]; exact Rd.slcElem VV.len (by decide) (.there _ (.here _ _ _)) hzg) rfl rfl ?_
       refine HQ.Cf (i := k) rfl rfl rfl rfl (by omega) rfl ?_
       refine HQ.Ae rfl ?_
       refine HB.next [] (by kernel_rfl) (S' := []) rfl ?_
       refine HB.ev1 (i := 14) (by kernel_rfl) rfl ?_
       refine H.storeE (vals := VV.vals) (xs := V.take k ++ y :: V.drop k) (i := k) (z := z) VV.len (by decide) (zad rfl) rfl rfl rfl (by omega) (.there _ (.here _ _ _)) ?_
       subst hj
       rw [ins_step hz]
       refine gC ?_
       refine H.on0 rfl ?_
       refine HB.Al (by kernel_rfl) ?_
       refine gI ?_
       refine H.Aa (x := slc (some ⟨vb2, 0, none⟩) _ c2 _ _ _) (by repeat constructor) ?_
       refine H.Aa (x := row lb _ _) (by repeat constructor) ?_
       refine H.Aa (x := row bb _ _) (by repeat constructor) ?_
       refine H.Aa (x := row wb _ _) (by repeat constructor) ?_
       refine H.know (d := 14) (u := .int .i64 (j : Int)) rfl (by first | rfl | (congr 1; done) | (congr 1; omega)) ?_
       exact H.Am (j, z) ⟨by show j ≤ V.length; omega, hins⟩ (by show j < j + 1; omega) ⟨rfl, rfl, rfl, rfl, trivial⟩ rfl rfl
      ·rw [if_neg hlv] at hins
       have hins2 := hins
       refine gT ?_
       refine H.Aa (x := row lb _ _) (by repeat constructor) ?_
       refine H.Aa (x := row wb _ _) (by repeat constructor) ?_
       refine H.Bu [0, 1, 2, 3, 4, 5, 6] (by kernel_rfl) (by decide +kernel) (by repeat (first | exact zab | refine zaa ?_ | refine zac ?_ | refine zae ?_)) (S := [_, _]) rfl ?_
       refine HB.Ag [(0, false), (1, false), (2, false), (3, false), (4, false), (5, false), (6, false)] 1 (by kernel_rfl) ?_
       refine gW ?_
       refine HQ.Ah (ls := NV.vals) rfl rfl rfl (Rd.ofRow (.here _ _ _)) rfl rfl ?_
       refine HQ.Cf (i := k) rfl rfl rfl rfl (by omega) rfl ?_
       refine HQ.Ae rfl ?_
       refine HB.next [] (by kernel_rfl) (S' := []) rfl ?_
       refine HB.ev1 (i := 7) (by kernel_rfl) rfl ?_
       refine H.storeE (vals := VV.vals) (xs := V.take k ++ y :: V.drop k) (i := k) (z := NV) VV.len (by decide) (zad rfl) rfl rfl rfl (by omega) (by repeat constructor) ?_
       rw [ins_last hk]
       refine gC ?_
       refine H.on0 rfl ?_
       refine HB.Al (by kernel_rfl) ?_
       refine gf ?_
       refine H.Ab (x := row wb _ _) (by repeat constructor) ?_
       refine H.Ab (x := row bb _ _) (by repeat constructor) ?_
       refine H.imp (hfin _ hk hins2) ?_
       exact H.Ac rfl rfl (fun _ h => h) ⟨g, hd, by rw [hbeg1], rfl, rfl⟩
 ·refine H.Bt rfl (by omega) ?_
  refine gf ?_
  refine H.Ab (x := row bb _ _) (by repeat constructor) ?_
  refine H.Ab (x := row mb _ _) (by repeat constructor) ?_
  refine H.imp (zai ⟨V, vp, vc, pp, pc, cp, cc, pb, cs⟩ hiF) ?_
  refine H.Ac rfl rfl (fun _ h => h) (LgP.no ?_)
  unfold Lgs.begins
  rw [if_pos hq]
end
section
variable (f : Frag) (F : List HP)
theorem rauth_fn (r : Req) : Fn Tryz.prog 154 [.agg r.vals.toArray] f F (Ret (.bool r.auth) f F) := by
 have has := fun G => rasked_fn f G r
 have hsd := fun G => rsigned_fn f G r
 unfold Req.auth
 unfold Req.signed at hsd
 by_cases ha : r.asked
 ·rw [if_pos ha] at hsd
  rw [decide_eq_true ha, Bool.true_and]
  rw [decide_eq_true ha] at has
  have heq : eqC (b32 r.sig) (b32 r.tag) = eq32 r.tag r.sig := eqC_comm _ _
  generalize eq32 r.tag r.sig = e at heq ⊢
  generalize r.sig = t at hsd heq
  refine Fn.enter Tryz.func154 rfl Tryz.ntmps154 rfl (L := [(0, _)]) ⟨rfl, trivial⟩ fun base => ?_
  refine gC ?_
  refine H.box (ls := r.vals) rfl rfl rfl rfl fun qb => ?_
  refine gO ?_
  refine H.Az (by kernel_rfl) (by decide +kernel) (by repeat (first | exact zab | refine zaa ?_ | refine zac ?_ | refine zae ?_)) (S := [_]) rfl ?_
  refine HB.Ag [(0, false)] 10 (by kernel_rfl) ?_
  refine HQ.Ah (ls := r.vals) rfl rfl rfl (Rd.ofRow (.here _ _ _)) rfl rfl ?_
  refine HQ.Ae rfl ?_
  refine HB.ev1 (i := 1) (by kernel_rfl) rfl ?_
  refine H.Ad rfl rfl rfl (has _) ?_
  refine gC ?_
  refine H.on0 rfl ?_
  refine HB.Ag [(2, false), (3, false), (6, false), (7, false)] 5 (by kernel_rfl) ?_
  refine gD ?_
  refine HQ.Ah (ls := r.vals) rfl rfl rfl (Rd.ofRow (.here _ _ _)) rfl rfl ?_
  refine gE ?_
  refine HQ.Ah (ls := b32 r.tag) rfl rfl rfl (req_tag (.here _ _ _)) rfl rfl ?_
  refine HQ.Ae rfl ?_
  refine HB.ev1 (i := 4) (by kernel_rfl) rfl ?_
  refine H.Ad rfl rfl rfl (hsd _) ?_
  refine gC ?_
  refine H.on0 rfl ?_
  refine HB.Ag [(5, false), (8, false), (9, false), (10, false)] 0 (by kernel_rfl) ?_
  refine HQ.fieldN (xs := ({ r with tag := t } : Req).vals) (ls := b32 t) rfl rfl rfl inferInstance rfl inferInstance rfl rfl ?_
  refine HQ.aggEq (xs := b32 t) (ys := b32 r.tag) (D := 4) rfl rfl rfl rfl (by kernel_rfl) (by kernel_rfl) (by kernel_rfl) (by kernel_rfl) (by decide) heq rfl ?_
  refine gN ?_
  refine HQ.Ae rfl ?_
  refine HB.Al (by kernel_rfl) ?_
  refine gf ?_
  refine H.Ab (.here _ _) ?_
  exact H.Ac rfl rfl (fun _ h => h) ⟨rfl, rfl, rfl⟩
 ·rw [decide_eq_false ha, Bool.false_and]
  rw [decide_eq_false ha] at has
  refine Fn.enter Tryz.func154 rfl Tryz.ntmps154 rfl (L := [(0, _)]) ⟨rfl, trivial⟩ fun base => ?_
  refine gC ?_
  refine H.box (ls := r.vals) rfl rfl rfl rfl fun qb => ?_
  refine gO ?_
  refine H.Az (by kernel_rfl) (by decide +kernel) (by repeat (first | exact zab | refine zaa ?_ | refine zac ?_ | refine zae ?_)) (S := [_]) rfl ?_
  refine HB.Ag [(0, false)] 10 (by kernel_rfl) ?_
  refine HQ.Ah (ls := r.vals) rfl rfl rfl (Rd.ofRow (.here _ _ _)) rfl rfl ?_
  refine HQ.Ae rfl ?_
  refine HB.ev1 (i := 1) (by kernel_rfl) rfl ?_
  refine H.Ad rfl rfl rfl (has _) ?_
  refine gC ?_
  refine H.on0 rfl ?_
  refine HB.Ag [(2, false), (3, false), (6, false), (7, false)] 5 (by kernel_rfl) ?_
  refine gN ?_
  refine HQ.Ae rfl ?_
  refine HB.ev1 (i := 4) (by kernel_rfl) rfl ?_
  refine gF ?_
  refine H.on0 rfl ?_
  refine HB.Ag [(5, false), (8, false), (9, false), (10, false)] 0 (by kernel_rfl) ?_
  refine gN ?_
  refine HQ.Ae rfl ?_
  refine HB.Al (by kernel_rfl) ?_
  refine gf ?_
  refine H.Ab (.here _ _) ?_
  exact H.Ac rfl rfl (fun _ h => h) ⟨rfl, rfl, rfl⟩
end
theorem LgP.yes {f : Frag} {F : List HP} {lb : Nat} {l : Lgs} {r : Bool × Lgs} {b : Bool} (h : r = (b, l)) : LgP f F lb r (.bool b) f (logsH f lb l :: F) := by
 rw [h]
 exact ⟨nil0, Dj.nil _, rfl, (un_nil f).symm, rfl⟩
theorem Lgs.counts_3 {l : Lgs} {m : Msg} (h : m.body.kind = 3) : l.counts m = if (l.past (orgI m)).changeOk m.body.view = true then (true, { l with past := updF l.past (orgI m) ((l.past (orgI m)).change m.body.view), ch := updF l.ch (orgI m) (l.ch (orgI m) ++ [(m.body.view, m.number)]) }) else (false, l) := by
 unfold Lgs.counts; rw [if_pos h]
theorem Lgs.counts_4 {l : Lgs} {m : Msg} (h : m.body.kind = 4) : l.counts m = if decide (primZ l.n m.body.view = m.origin) = true then l.begins m else (false, l) := by
 unfold Lgs.counts; rw [if_neg (by rw [h]; decide), if_pos h]
theorem Lgs.counts_5n {l : Lgs} {m : Msg} (h : m.body.kind = 5) (hat : vwAt l.vs m.body.view = none) : l.counts m = (false, l) := by
 unfold Lgs.counts; rw [if_neg (by rw [h]; decide), if_neg (by rw [h]; decide), if_pos h]
 simp only [hat]
theorem Lgs.counts_5 {l : Lgs} {m : Msg} {i : Nat} {w : Vw} (h : m.body.kind = 5) (hat : vwAt l.vs m.body.view = some i) (hw : l.vs[i]? = some w) : l.counts m = if m.deps (primI l.n m.body.view) < w.num then (false, l) else ((l.past (orgI m)).enterOk m.body.view (w.s.length : Nat), l.doPast (orgI m) ((l.past (orgI m)).enter m.body.view (w.s.length : Nat))) := by
 unfold Lgs.counts; rw [if_neg (by rw [h]; decide), if_neg (by rw [h]; decide), if_pos h]
 simp only [hat, hw]
theorem Lgs.counts_1n {l : Lgs} {m : Msg} (h : m.body.kind = 1) (hat : vwAt l.vs m.body.view = none) : l.counts m = (false, l) := by
 unfold Lgs.counts; rw [if_neg (by rw [h]; decide), if_neg (by rw [h]; decide), if_neg (by rw [h]; decide), if_pos h]
 simp only [hat]
theorem Lgs.counts_1 {l : Lgs} {m : Msg} {i : Nat} {w : Vw} (h : m.body.kind = 1) (hat : vwAt l.vs m.body.view = some i) (hw : l.vs[i]? = some w) : l.counts m = if decide (primZ l.n m.body.view = m.origin) = false ∨ m.body.req.auth = false ∨ holdsB w.all m.body.req.client m.body.req.time = true ∨ (l.past (orgI m)).isOpen m.body.view = false then (false, l) else
  (true, { l with past := updF l.past (orgI m) ((l.past (orgI m)).prepare m.body.view), vs := l.vs.set i { w with p := w.p ++ [(m.number, m.body.req)] } }) := by
 unfold Lgs.counts; rw [if_neg (by rw [h]; decide), if_neg (by rw [h]; decide), if_neg (by rw [h]; decide), if_pos h]
 simp only [hat, hw]
theorem body_req {f : Frag} {A A' : List HP} {bb : Nat} {T : TypeId} {x : Bod} {q : Option Addr} {qc : Nat} (h : At A (row bb T (x.vals q qc)) A' (row bb T (x.vals q qc))) : Rd f A bb (0 + 3) x.req.vals := by
 have h1 := Rd.ofRow (f := f) h
 have e : x.vals q qc = [.int .u8 (x.kind.toNat : Nat), .int .u64 x.view, .int .u64 x.k] ++ x.req.vals ++ ([.slice q x.q.length qc] ++ b32 x.dig) := by unfold Bod.vals; simp only [List.append_assoc]
 rw [e] at h1
 exact h1.sub rfl
theorem flat_setV {α : Type} {vals : α → List Value} {sz : Nat} (hv : ∀ x, (vals x).length = sz) {xs : List α} {i j : Nat} {x z : α} {v : Value} (hx : xs[i]? = some x) (hz : SetV (vals x) j v (vals z)) : SetV (xs.flatMap vals) (i * sz + j) v ((xs.set i z).flatMap vals) := by
 have hi := (List.getElem?_eq_some_iff.1 hx).1
 have h2 : (xs.set i z)[i]? = some z := by rw [List.getElem?_set_self hi]
 have e1 : (xs.set i z).take i = xs.take i := by rw [List.take_set_of_le (Nat.le_refl _)]
 have e2 : (xs.set i z).drop (i + 1) = xs.drop (i + 1) := by rw [List.drop_set_of_lt (by omega)]
 have hl : ((xs.take i).flatMap vals).length = i * sz := by rw [zbh hv, List.length_take, Nat.min_eq_left (by omega)]
 rw [flat_split xs hx, flat_split (xs.set i z) h2, e1, e2, ← hl]
 exact hz.mid' _ _
theorem Lgs.counts_2n {l : Lgs} {m : Msg} (h : m.body.kind = 2) (hat : vwAt l.vs m.body.view = none) : l.counts m = (false, l) := by
 unfold Lgs.counts; rw [if_neg (by rw [h]; decide), if_neg (by rw [h]; decide), if_neg (by rw [h]; decide), if_neg (by rw [h]; decide), if_pos h]
 simp only [hat]
theorem Lgs.counts_2 {l : Lgs} {m : Msg} {i : Nat} {w : Vw} (h : m.body.kind = 2) (hat : vwAt l.vs m.body.view = some i) (hw : l.vs[i]? = some w) : l.counts m = if decide (primZ l.n m.body.view = m.origin) = true then (false, l) else ((l.past (orgI m)).commitOk m.body.view m.body.k (knowsV w (m.deps (primI l.n m.body.view)) : Nat), l.doPast (orgI m) ((l.past (orgI m)).commit m.body.view m.body.k (knowsV w (m.deps (primI l.n m.body.view)) : Nat))) := by
 unfold Lgs.counts; rw [if_neg (by rw [h]; decide), if_neg (by rw [h]; decide), if_neg (by rw [h]; decide), if_neg (by rw [h]; decide), if_pos h]
 simp only [hat, hw]
theorem Lgs.counts_x {l : Lgs} {m : Msg} (h3 : ¬ m.body.kind = 3) (h4 : ¬ m.body.kind = 4) (h5 : ¬ m.body.kind = 5) (h1 : ¬ m.body.kind = 1) (h2 : ¬ m.body.kind = 2) : l.counts m = (decide (m.body.kind = 6), l) := by
 unfold Lgs.counts; rw [if_neg h3, if_neg h4, if_neg h5, if_neg h1, if_neg h2]
theorem chFam_upd (l : Lgs) (cs : Nat → Option Addr × Nat) (r : Nat) (p : Option Addr) (c : Nat) (y : Int × Int) (past : Nat → PM) : updF (chFam l cs) r (slc p ((l.ch r).length + 1) c 234 2 ((l.ch r).flatMap chV ++ chV y)) = chFam { l with past := past, ch := updF l.ch r (l.ch r ++ [y]) } (updF cs r (p, c)) := by
 funext j
 unfold chFam
 by_cases h : j = r
 ·subst h
  rw [zah]
  show _ = slc (updF cs j (p, c) j).1 (updF l.ch j _ j).length (updF cs j (p, c) j).2 _ 2 ((updF l.ch j _ j).flatMap chV)
  rw [zah, zah, List.length_append, List.flatMap_append]
  simp
 ·rw [zal _ _ h]
  show _ = slc (updF cs r (p, c) j).1 (updF l.ch r _ j).length (updF cs r (p, c) j).2 _ 2 ((updF l.ch r _ j).flatMap chV)
  rw [zal _ _ h, zal _ _ h]
theorem chRow_upd (l : Lgs) (cs : Nat → Option Addr × Nat) (r : Nat) (p : Option Addr) (c : Nat) (y : Int × Int) (past : Nat → PM) : rngV l.n (updF (fun r => Value.slice (cs r).1 (l.ch r).length (cs r).2) r (.slice p ((l.ch r).length + 1) c)) = chRow { l with past := past, ch := updF l.ch r (l.ch r ++ [y]) } (updF cs r (p, c)) := by
 unfold chRow
 refine rngV_congr fun j _ => ?_
 by_cases h : j = r
 ·subst h
  rw [zah]
  show _ = Value.slice (updF cs j (p, c) j).1 (updF l.ch j _ j).length (updF cs j (p, c) j).2
  rw [zah, zah, List.length_append]
  rfl
 ·rw [zal _ _ h]
  show _ = Value.slice (updF cs r (p, c) j).1 (updF l.ch r _ j).length (updF cs r (p, c) j).2
  rw [zal _ _ h, zal _ _ h]
section
variable (f : Frag) (F : List HP)
set_option maxRecDepth 20000 in
set_option maxHeartbeats 6400000 in
theorem counts_fn {fl : Frag} (hfl : Le fl f) {lb : Nat} {l : Lgs} {T : Nat} (hL : LI l T) (hT : T ≤ 50000) {x : MV} (hx : x.Good f) (hm : MIn l.n x.m) :
  Fn Tryz.prog 119 [.pointer (some ⟨lb, 0, none⟩), .agg x.vals.toArray] f (logsH fl lb l :: F) (LgP f F lb (l.counts x.m)) := by
 refine Fn.unpack fun i0 hi => ?_
 obtain ⟨V, vp, vc, pp, pc, cp, cc, pb, cs⟩ := i0
 have hiF := hi.mono hfl
 have hn := hL.n3
 obtain ⟨pbb, poff, hpp0, rdp0⟩ := hiF.past (by show 0 < l.n; omega)
 have hpp : pp = some ⟨pbb, poff, none⟩ := hpp0
 have rdp : ∀ {A : List HP} {r : Nat}, r < l.n → Rd1 f A pbb (poff + r) (.pointer (some ⟨pb r, 0, none⟩)) := fun {A r} hr => rdp0 (Le.refl f) hr
 clear hpp0 rdp0
 obtain ⟨r, hre⟩ : ∃ r, r = orgI x.m := ⟨_, rfl⟩
 have hor := hm.o
 have hr : r < l.n := by rw [hre]; unfold orgI; omega
 have hrz : x.m.origin - 1 = (r : Nat) := by rw [hre]; unfold orgI; omega
 have hwf := hL.wf r hr
 have hil := hL.il r hr
 have hvs : V.map VV.w = l.vs := hi.vs
 have hVl : V.length = l.vs.length := hi.len
 have hvl := hL.vl
 have hv0 := hm.v
 have hprim := fun G => prim_fn f G (n := l.n) (by omega) hv0
 have hview := fun G => lgview_fn f G (lb := lb) (n := l.n) (kn := l.known) (V := V) (vp := vp) (vc := vc) (pp := pp) (pc := pc) (cp := cp) (cc := cc) (by omega) x.m.body.view
 rw [hvs] at hview
 show Fn _ _ _ f (row lb 200 (lgC l.n l.known vp V.length vc pp pc cp cc) :: slc vp V.length vc 195 4 (V.flatMap VV.vals) :: lst (V.map VV.own) :: fam (fun r => pstH (pb r) (l.past r)) l.n :: slc cp l.n cc 232 1 (chRow l cs) :: fam (chFam l cs) l.n :: F) _
 refine Fn.enter Tryz.func119 rfl Tryz.ntmps119 rfl (L := [(0, _), (1, _)]) ⟨rfl, rfl, trivial⟩ fun base => ?_
 refine gC ?_
 refine H.box (ls := x.vals) rfl rfl rfl rfl fun mb => ?_
 refine gO ?_
 refine H.Bg (by kernel_rfl) (by decide +kernel) (by repeat (first | exact zab | refine zaa ?_ | refine zac ?_ | refine zae ?_)) ?_
 refine gW ?_
 refine HQ.Ar (b := pbb) (off := poff) (i := r) rfl (by rw [← hpp]; rfl) rfl hrz hr rfl ?_
 refine HQ.Af rfl rfl rfl (by rw [Nat.mul_one]; exact rdp hr) rfl ?_
 refine gS ?_
 refine gY ?_
 refine H.Ah (ls := x.m.body.vals x.qp x.qc) rfl rfl rfl (msg_body (.here _ _ _)) rfl rfl ?_
 refine H.Au (ls := (Bod.zero 0).vals none 0) rfl rfl rfl fun bb => ?_
 refine H.Ak (ls := (Bod.zero 0).vals none 0) (vs := x.m.body.vals x.qp x.qc) (ls' := x.m.body.vals x.qp x.qc) rfl rfl rfl (zad rfl) rfl rfl (Nat.le_refl 76) (.here _ _ _) ?_
 refine gC ?_
 refine H.Az (by kernel_rfl) (by decide +kernel) (by repeat (first | exact zab | refine zaa ?_ | refine zac ?_ | refine zae ?_)) (S := [_, _, _]) rfl ?_
 refine HB.Ag [(0, false), (1, false), (2, false), (3, false), (4, false), (5, false), (7, false), (8, false)] 3 (by kernel_rfl) ?_
 refine gW ?_
 refine HQ.Ae rfl ?_
 refine HB.ev1 (i := 6) (by kernel_rfl) rfl ?_
 refine H.Ad rfl rfl rfl (hprim _) ?_
 refine gC ?_
 refine H.on0 rfl ?_
 refine HB.Ag [(9, false), (10, false)] 0 (by kernel_rfl) ?_
 refine ge ?_
 refine HQ.Ae rfl ?_
 refine HB.Al (by kernel_rfl) ?_
 refine gY ?_
 refine H.Aa (x := slc vp _ vc _ _ _) (by repeat constructor) ?_
 refine H.Aa (x := row lb _ _) (by repeat constructor) ?_
 refine H.Ad rfl rfl rfl (hview _) ?_
 refine H.Aa (x := row mb _ _) (by repeat constructor) ?_
 refine H.Aa (x := row bb _ _) (by repeat constructor) ?_
 refine gR ?_
 clear hprim hview
 have hku := x.m.body.kind.toNat_lt
 by_cases k3 : x.m.body.kind.toNat = 3
 ·have k3' : x.m.body.kind = 3 := UInt8.toNat_inj.1 k3
  rw [Lgs.counts_3 k3', ← hre]
  have hch := fun G => pst_change f G (pb r) (l.past r) x.m.body.view
  refine gU ?_
  refine H.Aa (x := fam (fun r => pstH _ _) _) (by repeat constructor) ?_
  refine H.Cj hr ?_
  refine H.Ad rfl rfl rfl (hch _) ?_
  cases hck : (l.past r).changeOk x.m.body.view with
  | false =>
   rw [show (l.past r).change x.m.body.view = l.past r by unfold PM.change; rw [hck]; rfl]
   refine H.Ck (g := fun r => pstH (pb r) (l.past r)) hr ?_
   refine gc ?_
   refine H.Ab (x := row bb _ _) (by repeat constructor) ?_
   refine H.Ab (x := row mb _ _) (by repeat constructor) ?_
   refine H.Aa (x := fam (chFam l cs) _) (by repeat constructor) ?_
   refine H.Aa (x := slc cp _ cc _ _ _) (by repeat constructor) ?_
   refine H.Aa (x := fam (fun r => pstH _ _) _) (by repeat constructor) ?_
   refine H.Aa (x := lst (V.map VV.own)) (by repeat constructor) ?_
   refine H.Aa (x := slc vp _ vc _ _ _) (by repeat constructor) ?_
   refine H.Aa (x := row lb _ _) (by repeat constructor) ?_
   refine H.imp (zai ⟨V, vp, vc, pp, pc, cp, cc, pb, cs⟩ hiF) ?_
   refine H.Ac rfl rfl (fun _ h => h) (LgP.no ?_)
   rw [if_neg (by decide)]
  | true =>
   refine H.famPut (g := fun r => pstH (pb r) (l.past r)) hr ?_
   rw [pst_updF]
   refine ga ?_
   refine H.Bq (p := cp) (n0 := l.n) (c := cc) (T := 232) (sz := 1) (xs := chRow l cs) (by repeat constructor) (by omega) fun cb hcb => ?_
   subst hcb
   refine H.Aa (x := slc (some ⟨cb, 0, none⟩) _ cc _ _ _) (by repeat constructor) ?_
   refine H.Aa (x := row lb _ _) (by repeat constructor) ?_
   refine H.Aa (x := row mb _ _) (by repeat constructor) ?_
   refine H.Aa (x := row bb _ _) (by repeat constructor) ?_
   refine H.Bu [0, 1, 2, 3, 4, 5, 6, 7, 8, 9, 10, 11, 12, 13, 14, 15, 16, 17, 18, 19, 20, 21, 22] (by kernel_rfl) (by decide +kernel) (by repeat (first | exact zab | refine zaa ?_ | refine zac ?_ | refine zae ?_)) (S := [_, _, _, _]) rfl ?_
   refine HB.Ag [(0, false), (1, false), (2, false), (3, false), (4, false), (5, false), (6, false), (7, false), (8, false), (9, false), (10, false), (11, false), (12, false), (13, false), (14, false), (15, false), (16, false), (17, false), (18, false), (19, false), (20, false)] 4 (by kernel_rfl) ?_
   refine gW ?_
   refine HQ.Ar (i := r) rfl rfl rfl hrz hr rfl ?_
   refine HQ.Af rfl rfl rfl (by rw [Nat.zero_add, Nat.mul_one]; exact Rd1.at0 (Rd.ofSlc (.there _ (.there _ (.there _ (.here _ _ _)))) (by omega)) (rngV_get _ hr)) rfl ?_
   refine ge ?_
   refine HQ.Ae rfl ?_
   refine HB.ev1 (i := 21) (by kernel_rfl) rfl ?_
   refine H.Bb (out := chV (x.m.body.view, x.m.number)) rfl rfl rfl rfl (by decide) (by decide) rfl rfl fun eb => ?_
   refine gC ?_
   refine H.Aa (x := slc (some ⟨cb, 0, none⟩) _ cc _ _ _) (by repeat constructor) ?_
   refine H.Aa (x := row lb _ _) (by repeat constructor) ?_
   refine H.Aa (x := row mb _ _) (by repeat constructor) ?_
   refine H.Aa (x := row bb _ _) (by repeat constructor) ?_
   refine H.on0 rfl ?_
   refine HB.ev1 (i := 22) (by kernel_rfl) rfl ?_
   refine H.Aa (x := row eb _ _) (by repeat constructor) ?_
   refine H.Aa (x := fam (chFam l cs) _) (by repeat constructor) ?_
   refine H.Cj hr ?_
   have hcl := hL.cl r
   refine H.Bd (sz := 2) (p := (cs r).1) (n0 := (l.ch r).length) (c := (cs r).2) (xs := (l.ch r).flatMap chV) (m := 1) (news := chV (x.m.body.view, x.m.number)) rfl rfl rfl rfl rfl (fun p' c' => .here _ _ _) (Src.slice (Rd.ofRow (.there _ (.there _ (.here _ _ _)))) rfl) (zad rfl) rfl (by omega) (by omega) fun p2 c2 => ?_
   refine H.famPut (g := chFam l cs) hr ?_
   rw [chFam_upd l cs r p2 c2 (x.m.body.view, x.m.number) (updF l.past r ((l.past r).change x.m.body.view))]
   refine gC ?_
   refine H.Ab (x := row eb _ _) (by repeat constructor) ?_
   refine H.Aa (x := slc (some ⟨cb, 0, none⟩) _ cc _ _ _) (by repeat constructor) ?_
   refine H.Aa (x := row lb _ _) (by repeat constructor) ?_
   refine H.Aa (x := row mb _ _) (by repeat constructor) ?_
   refine H.Aa (x := row bb _ _) (by repeat constructor) ?_
   refine H.on0 rfl ?_
   refine HB.next [] (by kernel_rfl) (S' := []) rfl ?_
   refine HB.Ag [(23, false)] 1 (by kernel_rfl) ?_
   refine HQ.Ar (i := r) rfl rfl rfl hrz hr rfl ?_
   refine HQ.Ae rfl ?_
   refine HB.ev1 (i := 24) (by kernel_rfl) rfl ?_
   refine H.store_slc rfl rfl rfl rfl (by repeat constructor) (by rw [Nat.zero_add, Nat.mul_one]; exact rngV_set _ _ hr) ?_
   rw [chRow_upd l cs r p2 c2 (x.m.body.view, x.m.number) (updF l.past r ((l.past r).change x.m.body.view))]
   refine gC ?_
   refine H.on0 rfl ?_
   refine HB.Al (by kernel_rfl) ?_
   refine gf ?_
   refine H.Ab (x := row bb _ _) (by repeat constructor) ?_
   refine H.Ab (x := row mb _ _) (by repeat constructor) ?_
   refine H.Aa (x := fam (chFam _ (updF cs r (p2, c2))) _) (by repeat constructor) ?_
   refine H.Aa (x := slc (some ⟨cb, 0, none⟩) _ cc _ _ _) (by repeat constructor) ?_
   refine H.Aa (x := fam (fun r => pstH _ _) _) (by repeat constructor) ?_
   refine H.Aa (x := lst (V.map VV.own)) (by repeat constructor) ?_
   refine H.Aa (x := slc vp _ vc _ _ _) (by repeat constructor) ?_
   refine H.Aa (x := row lb _ _) (by repeat constructor) ?_
   refine H.imp (zai (l := { l with past := updF l.past r ((l.past r).change x.m.body.view), ch := updF l.ch r (l.ch r ++ [(x.m.body.view, x.m.number)]) }) ⟨V, vp, vc, pp, pc, some ⟨cb, 0, none⟩, cc, pb, updF cs r (p2, c2)⟩ ⟨hiF.vs, hiF.s, hiF.p⟩) ?_
   refine H.Ac rfl rfl (fun _ h => h) (LgP.yes ?_)
   rw [if_pos rfl]
 ·by_cases k4 : x.m.body.kind.toNat = 4
  ·have k4' : x.m.body.kind = 4 := UInt8.toNat_inj.1 k4
   rw [Lgs.counts_4 k4']
   by_cases hp : primZ l.n x.m.body.view = x.m.origin
   ·rw [decide_eq_true hp, if_pos rfl]
    refine gR ?_
    refine H.Ah (ls := x.vals) rfl rfl rfl (Rd.ofRow (.there _ (.here _ _ _))) rfl rfl ?_
    refine H.Aa (x := fam (chFam l cs) _) (by repeat constructor) ?_
    refine H.Aa (x := slc cp _ cc _ _ _) (by repeat constructor) ?_
    refine H.Aa (x := fam (fun r => pstH _ _) _) (by repeat constructor) ?_
    refine H.Aa (x := lst (V.map VV.own)) (by repeat constructor) ?_
    refine H.Aa (x := slc vp _ vc _ _ _) (by repeat constructor) ?_
    refine H.Aa (x := row lb _ _) (by repeat constructor) ?_
    refine H.imp (zai ⟨V, vp, vc, pp, pc, cp, cc, pb, cs⟩ hiF) ?_
    refine H.Bo rfl rfl rfl (begins_fn f _ (Le.refl f) hL hT hx hm) fun v f' A' hr => ?_
    obtain ⟨g, hd, rfl, rfl, rfl⟩ := hr
    refine gT ?_
    refine H.Ab (x := row bb _ _) (by repeat constructor) ?_
    refine H.Ab (x := row mb _ _) (by repeat constructor) ?_
    exact H.Ac rfl rfl (fun _ h => h) ⟨g, hd, rfl, rfl, rfl⟩
   ·rw [decide_eq_false hp, if_neg (by decide)]
    refine gK ?_
    refine H.Ab (x := row bb _ _) (by repeat constructor) ?_
    refine H.Ab (x := row mb _ _) (by repeat constructor) ?_
    refine H.Aa (x := fam (chFam l cs) _) (by repeat constructor) ?_
    refine H.Aa (x := slc cp _ cc _ _ _) (by repeat constructor) ?_
    refine H.Aa (x := fam (fun r => pstH _ _) _) (by repeat constructor) ?_
    refine H.Aa (x := lst (V.map VV.own)) (by repeat constructor) ?_
    refine H.Aa (x := slc vp _ vc _ _ _) (by repeat constructor) ?_
    refine H.Aa (x := row lb _ _) (by repeat constructor) ?_
    refine H.imp (zai ⟨V, vp, vc, pp, pc, cp, cc, pb, cs⟩ hiF) ?_
    refine H.Ac rfl rfl (fun _ h => h) (LgP.no ?_)
    rfl
  ·have hpz : primZ l.n x.m.body.view = 1 + ((primI l.n x.m.body.view : Nat) : Int) := rfl
   have hp11 : primI l.n x.m.body.view < 11 := by
    have h1 : x.m.body.view % (l.n : Int) < l.n := Int.emod_lt_of_pos _ (by omega)
    have h2 : 0 ≤ x.m.body.view % (l.n : Int) := Int.emod_nonneg _ (by omega)
    unfold primI
    omega
   have hprim : ∀ G, Fn Tryz.prog 149 [.int .i64 (l.n : Int), .int .u64 x.m.body.view] f G (Ret (.int .i64 (1 + ((primI l.n x.m.body.view : Nat) : Int))) f G) := fun G => prim_fn f G (n := l.n) (by omega) hv0
   obtain ⟨pI, hpI⟩ : ∃ pI, pI = primI l.n x.m.body.view := ⟨_, rfl⟩
   rw [← hpI] at hprim hp11 hpz
   by_cases k5 : x.m.body.kind.toNat = 5
   ·have k5' : x.m.body.kind = 5 := UInt8.toNat_inj.1 k5
    cases hat : vwAt l.vs x.m.body.view with
    | none =>
     rw [Lgs.counts_5n k5' hat]
     rw [show vwZ l.vs x.m.body.view = -1 by unfold vwZ; rw [hat]]
     refine gR ?_
     refine H.Aa (x := slc vp _ vc _ _ _) (by repeat constructor) ?_
     refine H.Aa (x := row lb _ _) (by repeat constructor) ?_
     refine H.Aa (x := row mb _ _) (by repeat constructor) ?_
     refine H.Aa (x := row bb _ _) (by repeat constructor) ?_
     refine H.Az (by kernel_rfl) (by decide +kernel) (by repeat (first | exact zab | refine zaa ?_ | refine zac ?_ | refine zae ?_)) (S := [_, _, _, _]) rfl ?_
     refine HB.Ag [(0, false), (1, false), (2, false), (3, false), (4, false), (5, false), (6, false), (7, false), (8, false), (9, false), (10, false), (11, false), (12, false), (13, false), (14, false), (15, false), (16, false), (19, false)] 6 (by kernel_rfl) ?_
     refine ge ?_
     refine HQ.Ae rfl ?_
     refine HB.ev1 (i := 17) (by kernel_rfl) rfl ?_
     refine gF ?_
     refine H.on0 rfl ?_
     refine HB.Ag [(18, false), (20, false), (21, false), (22, false), (23, false)] 0 (by kernel_rfl) ?_
     refine gN ?_
     refine HQ.Ae rfl ?_
     refine HB.Al (by kernel_rfl) ?_
     refine gG ?_
     refine H.Ab (x := row bb _ _) (by repeat constructor) ?_
     refine H.Ab (x := row mb _ _) (by repeat constructor) ?_
     refine H.Aa (x := fam (chFam l cs) _) (by repeat constructor) ?_
     refine H.Aa (x := slc cp _ cc _ _ _) (by repeat constructor) ?_
     refine H.Aa (x := fam (fun r => pstH _ _) _) (by repeat constructor) ?_
     refine H.Aa (x := lst (V.map VV.own)) (by repeat constructor) ?_
     refine H.Aa (x := slc vp _ vc _ _ _) (by repeat constructor) ?_
     refine H.Aa (x := row lb _ _) (by repeat constructor) ?_
     refine H.imp (zai ⟨V, vp, vc, pp, pc, cp, cc, pb, cs⟩ hiF) ?_
     refine H.Ac rfl rfl (fun _ h => h) (LgP.no ?_)
     rfl
    | some i =>
     obtain ⟨⟨w, hw, hwv⟩, _⟩ := zav.1 hat
     obtain ⟨X, hX, rfl⟩ := hiF.of hw
     have hX : V[i]? = some X := hX
     have hilt := (List.getElem?_eq_some_iff.1 hX).1
     have hXl := hL.al X.w (List.mem_of_getElem? hw)
     have hXa := X.w.all_len
     refine H.Bq (p := vp) (n0 := V.length) (c := vc) (T := 195) (sz := 4) (xs := V.flatMap VV.vals) (by repeat constructor) (by omega) fun vb hvb => ?_
     have hVd : ∀ {A A' : List HP}, At A (slc vp V.length vc 195 4 (V.flatMap VV.vals)) A' (slc vp V.length vc 195 4 (V.flatMap VV.vals)) → Rd f A vb (i * 4) X.vals := fun {A A'} h => Rd.slcElem (n := V.length) (c := vc) (T := 195) (xs := V) VV.len (by decide) (by rw [← hvb]; exact h) hX
     rw [Lgs.counts_5 k5' hat hw, ← hpI, ← hre]
     rw [show vwZ l.vs x.m.body.view = (i : Int) by unfold vwZ; rw [hat]]
     refine gR ?_
     refine H.Aa (x := slc vp _ vc _ _ _) (by repeat constructor) ?_
     refine H.Aa (x := row lb _ _) (by repeat constructor) ?_
     refine H.Aa (x := row mb _ _) (by repeat constructor) ?_
     refine H.Aa (x := row bb _ _) (by repeat constructor) ?_
     refine H.Az (by kernel_rfl) (by decide +kernel) (by repeat (first | exact zab | refine zaa ?_ | refine zac ?_ | refine zae ?_)) (S := [_, _, _, _]) rfl ?_
     refine HB.Ag [(0, false), (1, false), (2, false), (3, false), (4, false), (5, false), (6, false), (7, false), (8, false), (9, false), (10, false), (11, false), (12, false), (13, false), (14, false), (15, false), (16, false), (19, false)] 6 (by kernel_rfl) ?_
     refine ge ?_
     refine HQ.Ar (b := vb) (off := 0) (i := i) rfl (by rw [← hvb]; rfl) rfl rfl hilt rfl ?_
     refine gE ?_
     refine HQ.Af rfl rfl rfl (Rd1.of (i := 1) (by rw [Nat.zero_add]; exact hVd (.there _ (.there _ (.there _ (.here _ _ _))))) rfl) rfl ?_
     refine gW ?_
     refine HQ.Ae rfl ?_
     refine HB.ev1 (i := 17) (by kernel_rfl) rfl ?_
     refine H.Ad rfl rfl rfl (hprim _) ?_
     refine gC ?_
     refine H.on0 rfl ?_
     refine HB.Ag [(18, false), (20, false), (21, false), (22, false), (23, false)] 0 (by kernel_rfl) ?_
     refine gS ?_
     refine HQ.Aw (i := pI) rfl rfl rfl (by omega) hp11 rfl ?_
     refine HQ.Af rfl rfl rfl (by rw [Nat.mul_one]; exact Rd1.of (zan (m := x.m) (q := x.qp) (qc := x.qc) (.there _ (.here _ _ _))) (zam x.m.deps hp11)) rfl ?_
     refine ge ?_
     refine HQ.Ae rfl ?_
     refine HB.Al (by kernel_rfl) ?_
     by_cases hd : x.m.deps pI < X.w.num
     ·rw [if_pos hd]
      refine gL ?_
      refine H.Ab (x := row bb _ _) (by repeat constructor) ?_
      refine H.Ab (x := row mb _ _) (by repeat constructor) ?_
      refine H.Aa (x := fam (chFam l cs) _) (by repeat constructor) ?_
      refine H.Aa (x := slc cp _ cc _ _ _) (by repeat constructor) ?_
      refine H.Aa (x := fam (fun r => pstH _ _) _) (by repeat constructor) ?_
      refine H.Aa (x := lst (V.map VV.own)) (by repeat constructor) ?_
      refine H.Aa (x := slc vp _ vc _ _ _) (by repeat constructor) ?_
      refine H.Aa (x := row lb _ _) (by repeat constructor) ?_
      refine H.imp (zai ⟨V, vp, vc, pp, pc, cp, cc, pb, cs⟩ hiF) ?_
      refine H.Ac rfl rfl (fun _ h => h) (LgP.no ?_)
      rfl
     ·rw [if_neg hd]
      refine gT ?_
      have hent := fun G => pst_enter f G (pb r) (l.past r) hwf (by omega) x.m.body.view ((X.w.s.length : Nat) : Int)
      refine H.Az (by kernel_rfl) (by decide +kernel) (by repeat (first | exact zab | refine zaa ?_ | refine zac ?_ | refine zae ?_)) (S := [_, _, _, _]) rfl ?_
      refine HB.Ag [(0, false), (1, false), (2, false), (3, false), (4, false), (5, false), (6, false), (7, false), (8, false), (9, false), (10, false), (11, false)] 2 (by kernel_rfl) ?_
      refine gW ?_
      refine HQ.Ar (b := vb) (off := 0) (i := i) rfl (by rw [← hvb]; rfl) rfl rfl hilt rfl ?_
      refine gE ?_
      refine HQ.Af rfl rfl rfl (Rd1.of (i := 2) (by rw [Nat.zero_add]; exact hVd (.there _ (.there _ (.there _ (.here _ _ _))))) rfl) rfl ?_
      refine gD ?_
      refine HQ.Ae rfl ?_
      refine HB.ev1 (i := 12) (by kernel_rfl) rfl ?_
      refine H.Aa (x := fam (fun r => pstH _ _) _) (by repeat constructor) ?_
      refine H.Cj hr ?_
      refine H.Ad rfl rfl rfl (hent _) ?_
      refine H.famPut (g := fun r => pstH (pb r) (l.past r)) hr ?_
      rw [pst_updF]
      refine gC ?_
      refine H.Aa (x := slc vp _ vc _ _ _) (by repeat constructor) ?_
      refine H.Aa (x := row lb _ _) (by repeat constructor) ?_
      refine H.Aa (x := row mb _ _) (by repeat constructor) ?_
      refine H.Aa (x := row bb _ _) (by repeat constructor) ?_
      refine H.on0 rfl ?_
      refine HB.Ag [(13, false)] 0 (by kernel_rfl) ?_
      refine gD ?_
      refine HQ.Ae rfl ?_
      refine HB.Al (by kernel_rfl) ?_
      refine gf ?_
      refine H.Ab (x := row bb _ _) (by repeat constructor) ?_
      refine H.Ab (x := row mb _ _) (by repeat constructor) ?_
      refine H.Aa (x := fam (chFam l cs) _) (by repeat constructor) ?_
      refine H.Aa (x := slc cp _ cc _ _ _) (by repeat constructor) ?_
      refine H.Aa (x := fam (fun r => pstH _ _) _) (by repeat constructor) ?_
      refine H.Aa (x := lst (V.map VV.own)) (by repeat constructor) ?_
      refine H.Aa (x := slc vp _ vc _ _ _) (by repeat constructor) ?_
      refine H.Aa (x := row lb _ _) (by repeat constructor) ?_
      refine H.imp (zai (l := l.doPast r _) ⟨V, vp, vc, pp, pc, cp, cc, pb, cs⟩ ⟨hiF.vs, hiF.s, hiF.p⟩) ?_
      exact H.Ac rfl rfl (fun _ h => h) (LgP.yes rfl)
   ·by_cases k1 : x.m.body.kind.toNat = 1
    ·have k1' : x.m.body.kind = 1 := UInt8.toNat_inj.1 k1
     cases hat : vwAt l.vs x.m.body.view with
     | none =>
      rw [Lgs.counts_1n k1' hat]
      rw [show vwZ l.vs x.m.body.view = -1 by unfold vwZ; rw [hat]]
      cases hpd : decide (primZ l.n x.m.body.view = x.m.origin) with
      | true =>
       refine gR ?_
       refine H.Aa (x := slc vp _ vc _ _ _) (by repeat constructor) ?_
       refine H.Aa (x := row lb _ _) (by repeat constructor) ?_
       refine H.Aa (x := row mb _ _) (by repeat constructor) ?_
       refine H.Aa (x := row bb _ _) (by repeat constructor) ?_
       refine H.Az (by kernel_rfl) (by decide +kernel) (by repeat (first | exact zab | refine zaa ?_ | refine zac ?_ | refine zae ?_)) (S := [_, _, _, _]) rfl ?_
       refine HB.Ag [(0, false), (1, false), (2, false), (3, false), (4, false), (5, false), (6, false), (7, false), (8, false)] 27 (by kernel_rfl) ?_
       refine ge ?_
       refine HQ.Ae rfl ?_
       refine HB.ev1 (i := 9) (by kernel_rfl) rfl ?_
       refine gF ?_
       refine H.on0 rfl ?_
       refine HB.Ag [(10, false), (11, false), (12, false), (13, false), (14, false), (15, false), (16, false), (17, false), (18, false), (19, false), (21, false), (22, false), (23, false), (24, false), (25, false), (26, false)] 10 (by kernel_rfl) ?_
       refine gN ?_
       refine HQ.Ae rfl ?_
       refine HB.ev1 (i := 20) (by kernel_rfl) rfl ?_
       refine gF ?_
       refine H.on0 rfl ?_
       refine HB.ev1 (i := 27) (by kernel_rfl) rfl ?_
       refine gF ?_
       refine H.on0 rfl ?_
       refine HB.Ag [(28, false), (29, false), (30, false), (31, false), (32, false)] 3 (by kernel_rfl) ?_
       refine gN ?_
       refine HQ.Ae rfl ?_
       refine HB.ev1 (i := 33) (by kernel_rfl) rfl ?_
       refine gF ?_
       refine H.on0 rfl ?_
       refine HB.Ag [(34, false), (35, false)] 0 (by kernel_rfl) ?_
       refine gN ?_
       refine HQ.Ae rfl ?_
       refine HB.Al (by kernel_rfl) ?_
       refine gG ?_
       refine H.Ab (x := row bb _ _) (by repeat constructor) ?_
       refine H.Ab (x := row mb _ _) (by repeat constructor) ?_
       refine H.Aa (x := fam (chFam l cs) _) (by repeat constructor) ?_
       refine H.Aa (x := slc cp _ cc _ _ _) (by repeat constructor) ?_
       refine H.Aa (x := fam (fun r => pstH _ _) _) (by repeat constructor) ?_
       refine H.Aa (x := lst (V.map VV.own)) (by repeat constructor) ?_
       refine H.Aa (x := slc vp _ vc _ _ _) (by repeat constructor) ?_
       refine H.Aa (x := row lb _ _) (by repeat constructor) ?_
       refine H.imp (zai ⟨V, vp, vc, pp, pc, cp, cc, pb, cs⟩ hiF) ?_
       refine H.Ac rfl rfl (fun _ h => h) (LgP.no ?_)
       rfl
      | false =>
       refine gR ?_
       refine H.Aa (x := slc vp _ vc _ _ _) (by repeat constructor) ?_
       refine H.Aa (x := row lb _ _) (by repeat constructor) ?_
       refine H.Aa (x := row mb _ _) (by repeat constructor) ?_
       refine H.Aa (x := row bb _ _) (by repeat constructor) ?_
       refine H.Az (by kernel_rfl) (by decide +kernel) (by repeat (first | exact zab | refine zaa ?_ | refine zac ?_ | refine zae ?_)) (S := [_, _, _, _]) rfl ?_
       refine HB.Ag [(0, false), (1, false), (2, false), (3, false), (4, false), (5, false), (6, false), (7, false), (8, false)] 27 (by kernel_rfl) ?_
       refine gN ?_
       refine HQ.Ae rfl ?_
       refine HB.ev1 (i := 9) (by kernel_rfl) rfl ?_
       refine gF ?_
       refine H.on0 rfl ?_
       refine HB.Ag [(10, false), (11, false), (12, false), (13, false), (14, false), (15, false), (16, false), (17, false), (18, false), (19, false), (21, false), (22, false), (23, false), (24, false), (25, false), (26, false)] 10 (by kernel_rfl) ?_
       refine gN ?_
       refine HQ.Ae rfl ?_
       refine HB.ev1 (i := 20) (by kernel_rfl) rfl ?_
       refine gF ?_
       refine H.on0 rfl ?_
       refine HB.ev1 (i := 27) (by kernel_rfl) rfl ?_
       refine gF ?_
       refine H.on0 rfl ?_
       refine HB.Ag [(28, false), (29, false), (30, false), (31, false), (32, false)] 3 (by kernel_rfl) ?_
       refine gN ?_
       refine HQ.Ae rfl ?_
       refine HB.ev1 (i := 33) (by kernel_rfl) rfl ?_
       refine gF ?_
       refine H.on0 rfl ?_
       refine HB.Ag [(34, false), (35, false)] 0 (by kernel_rfl) ?_
       refine gN ?_
       refine HQ.Ae rfl ?_
       refine HB.Al (by kernel_rfl) ?_
       refine gG ?_
       refine H.Ab (x := row bb _ _) (by repeat constructor) ?_
       refine H.Ab (x := row mb _ _) (by repeat constructor) ?_
       refine H.Aa (x := fam (chFam l cs) _) (by repeat constructor) ?_
       refine H.Aa (x := slc cp _ cc _ _ _) (by repeat constructor) ?_
       refine H.Aa (x := fam (fun r => pstH _ _) _) (by repeat constructor) ?_
       refine H.Aa (x := lst (V.map VV.own)) (by repeat constructor) ?_
       refine H.Aa (x := slc vp _ vc _ _ _) (by repeat constructor) ?_
       refine H.Aa (x := row lb _ _) (by repeat constructor) ?_
       refine H.imp (zai ⟨V, vp, vc, pp, pc, cp, cc, pb, cs⟩ hiF) ?_
       refine H.Ac rfl rfl (fun _ h => h) (LgP.no ?_)
       rfl
     | some i =>
      obtain ⟨⟨w, hw, hwv⟩, _⟩ := zav.1 hat
      obtain ⟨X, hX, rfl⟩ := hiF.of hw
      have hX : V[i]? = some X := hX
      have hilt := (List.getElem?_eq_some_iff.1 hX).1
      have hXl := hL.al X.w (List.mem_of_getElem? hw)
      have hXa := X.w.all_len
      refine H.Bq (p := vp) (n0 := V.length) (c := vc) (T := 195) (sz := 4) (xs := V.flatMap VV.vals) (by repeat constructor) (by omega) fun vb hvb => ?_
      have hVd : ∀ {A A' : List HP}, At A (slc vp V.length vc 195 4 (V.flatMap VV.vals)) A' (slc vp V.length vc 195 4 (V.flatMap VV.vals)) → Rd f A vb (i * 4) X.vals := fun {A A'} h => Rd.slcElem (n := V.length) (c := vc) (T := 195) (xs := V) VV.len (by decide) (by rw [← hvb]; exact h) hX
      rw [Lgs.counts_1 k1' hat hw, ← hre]
      rw [show vwZ l.vs x.m.body.view = (i : Int) by unfold vwZ; rw [hat]]
      by_cases hp : primZ l.n x.m.body.view = x.m.origin
      ·have hpd : decide (primZ l.n x.m.body.view = x.m.origin) = true := decide_eq_true hp
       rw [hpd]
       have hau := fun G => rauth_fn f G x.m.body.req
       refine gR ?_
       refine H.Aa (x := slc vp _ vc _ _ _) (by repeat constructor) ?_
       refine H.Aa (x := row lb _ _) (by repeat constructor) ?_
       refine H.Aa (x := row mb _ _) (by repeat constructor) ?_
       refine H.Aa (x := row bb _ _) (by repeat constructor) ?_
       refine H.Az (by kernel_rfl) (by decide +kernel) (by repeat (first | exact zab | refine zaa ?_ | refine zac ?_ | refine zae ?_)) (S := [_, _, _, _]) rfl ?_
       refine HB.Ag [(0, false), (1, false), (2, false), (3, false), (4, false), (5, false), (6, false), (7, false), (8, false)] 27 (by kernel_rfl) ?_
       refine ge ?_
       refine HQ.Ah (ls := x.m.body.req.vals) rfl rfl rfl (body_req (.here _ _ _)) rfl rfl ?_
       refine HQ.Ae rfl ?_
       refine HB.ev1 (i := 9) (by kernel_rfl) rfl ?_
       refine H.Ad rfl rfl rfl (hau _) ?_
       cases hauv : x.m.body.req.auth with
       | false =>
        rw [if_pos (.inr (.inl rfl))]
        refine gC ?_
        refine H.on0 rfl ?_
        refine HB.Ag [(10, false), (11, false), (12, false), (13, false), (14, false), (15, false), (16, false), (17, false), (18, false), (19, false), (21, false), (22, false), (23, false), (24, false), (25, false), (26, false)] 10 (by kernel_rfl) ?_
        refine gN ?_
        refine HQ.Ae rfl ?_
        refine HB.ev1 (i := 20) (by kernel_rfl) rfl ?_
        refine gF ?_
        refine H.on0 rfl ?_
        refine HB.ev1 (i := 27) (by kernel_rfl) rfl ?_
        refine gF ?_
        refine H.on0 rfl ?_
        refine HB.Ag [(28, false), (29, false), (30, false), (31, false), (32, false)] 3 (by kernel_rfl) ?_
        refine gN ?_
        refine HQ.Ae rfl ?_
        refine HB.ev1 (i := 33) (by kernel_rfl) rfl ?_
        refine gF ?_
        refine H.on0 rfl ?_
        refine HB.Ag [(34, false), (35, false)] 0 (by kernel_rfl) ?_
        refine gN ?_
        refine HQ.Ae rfl ?_
        refine HB.Al (by kernel_rfl) ?_
        refine gG ?_
        refine H.Ab (x := row bb _ _) (by repeat constructor) ?_
        refine H.Ab (x := row mb _ _) (by repeat constructor) ?_
        refine H.Aa (x := fam (chFam l cs) _) (by repeat constructor) ?_
        refine H.Aa (x := slc cp _ cc _ _ _) (by repeat constructor) ?_
        refine H.Aa (x := fam (fun r => pstH _ _) _) (by repeat constructor) ?_
        refine H.Aa (x := lst (V.map VV.own)) (by repeat constructor) ?_
        refine H.Aa (x := slc vp _ vc _ _ _) (by repeat constructor) ?_
        refine H.Aa (x := row lb _ _) (by repeat constructor) ?_
        refine H.imp (zai ⟨V, vp, vc, pp, pc, cp, cc, pb, cs⟩ hiF) ?_
        refine H.Ac rfl rfl (fun _ h => h) (LgP.no ?_)
        rfl
       | true =>
        refine gC ?_
        refine H.on0 rfl ?_
        refine HB.Ag [(10, false), (11, false), (12, false), (13, false), (14, false), (15, false), (16, false), (17, false), (18, false), (19, false), (21, false), (22, false), (23, false), (24, false), (25, false), (26, false)] 10 (by kernel_rfl) ?_
        refine ge ?_
        refine HQ.Ar (b := vb) (off := 0) (i := i) rfl (by rw [← hvb]; rfl) rfl rfl hilt rfl ?_
        refine HQ.Ah (ls := X.vals) rfl rfl rfl (by rw [Nat.zero_add]; exact hVd (.there _ (.there _ (.there _ (.here _ _ _))))) rfl rfl ?_
        refine gW ?_
        refine HQ.Ae rfl ?_
        refine HB.ev1 (i := 20) (by kernel_rfl) rfl ?_
        refine H.Aa (x := lst (V.map VV.own)) (by repeat constructor) ?_
        refine H.lstPull (x := X.own) (i := i) (by rw [List.getElem?_map, hX]; rfl) ?_
        refine H.callE rfl rfl rfl (all_fn f _ hfl (hi.s X (List.mem_of_getElem? hX)) (by omega)) fun ap => ?_
        obtain ⟨qp, qc⟩ := ap
        have hhol := fun G => holds_fn f G (p := qp) (c := qc) (R := X.w.all) x.m.body.req.client x.m.body.req.time (by omega)
        refine gC ?_
        refine H.Aa (x := lst ((V.map VV.own).set i emp)) (by repeat constructor) ?_
        refine H.Aa (x := X.own) (by repeat constructor) ?_
        refine H.lstBack (xs := V.map VV.own) (i := i) (by rw [List.getElem?_map, hX]; rfl) ?_
        refine H.Aa (x := slc vp _ vc _ _ _) (by repeat constructor) ?_
        refine H.Aa (x := row lb _ _) (by repeat constructor) ?_
        refine H.Aa (x := row mb _ _) (by repeat constructor) ?_
        refine H.Aa (x := row bb _ _) (by repeat constructor) ?_
        refine H.on0 rfl ?_
        refine HB.ev1 (i := 27) (by kernel_rfl) rfl ?_
        refine H.Aa (x := slc qp _ qc _ _ _) (by repeat constructor) ?_
        refine H.Ad rfl rfl rfl (hhol _) ?_
        cases hhv : holdsB X.w.all x.m.body.req.client x.m.body.req.time with
        | true =>
         rw [if_pos (.inr (.inr (.inl rfl)))]
         refine gC ?_
         refine H.Ab (.here _ _) ?_
         refine H.Aa (x := slc vp _ vc _ _ _) (by repeat constructor) ?_
         refine H.Aa (x := row lb _ _) (by repeat constructor) ?_
         refine H.Aa (x := row mb _ _) (by repeat constructor) ?_
         refine H.Aa (x := row bb _ _) (by repeat constructor) ?_
         refine H.on0 rfl ?_
         refine HB.Ag [(28, false), (29, false), (30, false), (31, false), (32, false)] 3 (by kernel_rfl) ?_
         refine gN ?_
         refine HQ.Ae rfl ?_
         refine HB.ev1 (i := 33) (by kernel_rfl) rfl ?_
         refine gF ?_
         refine H.on0 rfl ?_
         refine HB.Ag [(34, false), (35, false)] 0 (by kernel_rfl) ?_
         refine gN ?_
         refine HQ.Ae rfl ?_
         refine HB.Al (by kernel_rfl) ?_
         refine gG ?_
         refine H.Ab (x := row bb _ _) (by repeat constructor) ?_
         refine H.Ab (x := row mb _ _) (by repeat constructor) ?_
         refine H.Aa (x := fam (chFam l cs) _) (by repeat constructor) ?_
         refine H.Aa (x := slc cp _ cc _ _ _) (by repeat constructor) ?_
         refine H.Aa (x := fam (fun r => pstH _ _) _) (by repeat constructor) ?_
         refine H.Aa (x := lst (V.map VV.own)) (by repeat constructor) ?_
         refine H.Aa (x := slc vp _ vc _ _ _) (by repeat constructor) ?_
         refine H.Aa (x := row lb _ _) (by repeat constructor) ?_
         refine H.imp (zai ⟨V, vp, vc, pp, pc, cp, cc, pb, cs⟩ hiF) ?_
         refine H.Ac rfl rfl (fun _ h => h) (LgP.no ?_)
         rfl
        | false =>
         have hpre := fun G => pst_prepare f G (pb r) (l.past r) hwf (by omega) (by omega) x.m.body.view
         refine gC ?_
         refine H.Ab (.here _ _) ?_
         refine H.Aa (x := slc vp _ vc _ _ _) (by repeat constructor) ?_
         refine H.Aa (x := row lb _ _) (by repeat constructor) ?_
         refine H.Aa (x := row mb _ _) (by repeat constructor) ?_
         refine H.Aa (x := row bb _ _) (by repeat constructor) ?_
         refine H.on0 rfl ?_
         refine HB.Ag [(28, false), (29, false), (30, false), (31, false), (32, false)] 3 (by kernel_rfl) ?_
         refine ge ?_
         refine HQ.Ae rfl ?_
         refine HB.ev1 (i := 33) (by kernel_rfl) rfl ?_
         refine H.Aa (x := fam (fun r => pstH _ _) _) (by repeat constructor) ?_
         refine H.Cj hr ?_
         refine H.Ad rfl rfl rfl (hpre _) ?_
         cases hop : (l.past r).isOpen x.m.body.view with
         | false =>
          rw [if_pos (.inr (.inr (.inr rfl)))]
          rw [show (l.past r).prepare x.m.body.view = l.past r by unfold PM.prepare; rw [hop]; rfl]
          refine H.Ck (g := fun r => pstH (pb r) (l.past r)) hr ?_
          refine gC ?_
          refine H.Aa (x := slc vp _ vc _ _ _) (by repeat constructor) ?_
          refine H.Aa (x := row lb _ _) (by repeat constructor) ?_
          refine H.Aa (x := row mb _ _) (by repeat constructor) ?_
          refine H.Aa (x := row bb _ _) (by repeat constructor) ?_
          refine H.on0 rfl ?_
          refine HB.Ag [(34, false), (35, false)] 0 (by kernel_rfl) ?_
          refine gN ?_
          refine HQ.Ae rfl ?_
          refine HB.Al (by kernel_rfl) ?_
          refine gG ?_
          refine H.Ab (x := row bb _ _) (by repeat constructor) ?_
          refine H.Ab (x := row mb _ _) (by repeat constructor) ?_
          refine H.Aa (x := fam (chFam l cs) _) (by repeat constructor) ?_
          refine H.Aa (x := slc cp _ cc _ _ _) (by repeat constructor) ?_
          refine H.Aa (x := fam (fun r => pstH _ _) _) (by repeat constructor) ?_
          refine H.Aa (x := lst (V.map VV.own)) (by repeat constructor) ?_
          refine H.Aa (x := slc vp _ vc _ _ _) (by repeat constructor) ?_
          refine H.Aa (x := row lb _ _) (by repeat constructor) ?_
          refine H.imp (zai ⟨V, vp, vc, pp, pc, cp, cc, pb, cs⟩ hiF) ?_
          refine H.Ac rfl rfl (fun _ h => h) (LgP.no ?_)
          rfl
         | true =>
          rw [if_neg (by rintro (h | h | h | h) <;> cases h)]
          refine H.famPut (g := fun r => pstH (pb r) (l.past r)) hr ?_
          rw [pst_updF]
          refine gC ?_
          refine H.Aa (x := slc vp _ vc _ _ _) (by repeat constructor) ?_
          refine H.Aa (x := row lb _ _) (by repeat constructor) ?_
          refine H.Aa (x := row mb _ _) (by repeat constructor) ?_
          refine H.Aa (x := row bb _ _) (by repeat constructor) ?_
          refine H.on0 rfl ?_
          refine HB.Ag [(34, false), (35, false)] 0 (by kernel_rfl) ?_
          refine gN ?_
          refine HQ.Ae rfl ?_
          refine HB.Al (by kernel_rfl) ?_
          refine gV ?_
          obtain ⟨X2, hX2⟩ : ∃ X2 : Option Addr → Nat → VV, X2 = fun p c => ⟨{ X.w with p := X.w.p ++ [(x.m.number, x.m.body.req)] }, X.sp, X.sc, p, c⟩ := ⟨_, rfl⟩
          refine H.Bu [0, 1, 2, 3, 4, 5, 6, 7, 8, 9, 10, 11, 12, 13, 14, 15, 16, 17, 18, 19] (by kernel_rfl) (by decide +kernel) (by repeat (first | exact zab | refine zaa ?_ | refine zac ?_ | refine zae ?_)) (S := [_, _, _, _]) rfl ?_
          refine HB.Ag [(0, false), (1, false), (2, false), (3, false), (4, false), (5, false), (6, false), (7, false), (8, false), (9, false), (10, false), (11, false), (12, false), (13, false), (14, false), (15, false), (16, false), (17, false)] 5 (by kernel_rfl) ?_
          refine gW ?_
          refine HQ.Ar (b := vb) (off := 0) (i := i) rfl (by rw [← hvb]; rfl) rfl rfl hilt rfl ?_
          refine gE ?_
          refine HQ.Af rfl rfl rfl (Rd1.of (i := 3) (by rw [Nat.zero_add]; exact hVd (.there _ (.there _ (.there _ (.here _ _ _))))) rfl) rfl ?_
          refine gW ?_
          refine HQ.Ah (ls := x.m.body.req.vals) rfl rfl rfl (body_req (.here _ _ _)) rfl rfl ?_
          refine HQ.Bc (t := 241) (out := prepV (x.m.number, x.m.body.req)) rfl rfl rfl (by kernel_rfl) rfl ?_
          refine HQ.Ae rfl ?_
          refine HB.ev1 (i := 18) (by kernel_rfl) rfl ?_
          refine H.Bb (out := prepV (x.m.number, x.m.body.req)) rfl rfl rfl rfl (by decide) (by decide) rfl rfl fun eb => ?_
          refine gC ?_
          refine H.Aa (x := slc vp _ vc _ _ _) (by repeat constructor) ?_
          refine H.Aa (x := row lb _ _) (by repeat constructor) ?_
          refine H.Aa (x := row mb _ _) (by repeat constructor) ?_
          refine H.Aa (x := row bb _ _) (by repeat constructor) ?_
          refine H.on0 rfl ?_
          refine HB.ev1 (i := 19) (by kernel_rfl) rfl ?_
          refine H.Aa (x := row eb _ _) (by repeat constructor) ?_
          refine H.Aa (x := lst (V.map VV.own)) (by repeat constructor) ?_
          refine H.lstPull (x := X.own) (i := i) (by rw [List.getElem?_map, hX]; rfl) ?_
          refine H.Bd (sz := 41) (p := X.pp) (n0 := X.w.p.length) (c := X.pc) (xs := X.w.p.flatMap prepV) (m := 1) (news := prepV (x.m.number, x.m.body.req)) rfl rfl rfl rfl rfl (fun p' c' => .here _ _ _) (Src.slice (Rd.ofRow (.there _ (.there _ (.here _ _ _)))) rfl) (zad rfl) rfl (by omega) (by omega) fun p2 c2 => ?_
          rw [show slc p2 (X.w.p.length + 1) c2 241 41 (X.w.p.flatMap prepV ++ prepV (x.m.number, x.m.body.req)) = (X2 p2 c2).own by
           rw [hX2]
           show _ = slc p2 (X.w.p ++ [(x.m.number, x.m.body.req)]).length c2 _ 41 ((X.w.p ++ [(x.m.number, x.m.body.req)]).flatMap prepV)
           rw [List.length_append, List.flatMap_append]
           simp]
          refine H.lstPut (x0 := X.own) (xs := V.map VV.own) (i := i) (by rw [List.getElem?_map, hX]; rfl) ?_
          rw [← List.map_set]
          refine gC ?_
          refine H.Ab (x := row eb _ _) (by repeat constructor) ?_
          refine H.Aa (x := slc vp _ vc _ _ _) (by repeat constructor) ?_
          refine H.Aa (x := row lb _ _) (by repeat constructor) ?_
          refine H.Aa (x := row mb _ _) (by repeat constructor) ?_
          refine H.Aa (x := row bb _ _) (by repeat constructor) ?_
          refine H.on0 rfl ?_
          refine HB.next [] (by kernel_rfl) (S' := []) rfl ?_
          refine HB.Ag [(20, false), (21, false)] 1 (by kernel_rfl) ?_
          refine HQ.Ar (b := vb) (off := 0) (i := i) rfl (by rw [← hvb]; rfl) rfl rfl hilt rfl ?_
          refine gE ?_
          refine HQ.Ae rfl ?_
          refine HB.ev1 (i := 22) (by kernel_rfl) rfl ?_
          have hsv : SetV X.vals 3 (.slice p2 (X.w.p.length + 1) c2) (X2 p2 c2).vals := by
           rw [hX2]
           show SetV _ 3 _ [_, _, _, Value.slice p2 (X.w.p ++ [(x.m.number, x.m.body.req)]).length c2]
           rw [List.length_append]
           exact .there _ (.there _ (.there _ (.here _ _ _)))
          refine H.store_slc (xs' := (V.set i (X2 p2 c2)).flatMap VV.vals) rfl rfl rfl rfl (by rw [← hvb]; exact (by repeat constructor)) (by rw [Nat.zero_add]; exact flat_setV VV.len hX hsv) ?_
          refine gC ?_
          refine H.on0 rfl ?_
          refine HB.Al (by kernel_rfl) ?_
          refine gf ?_
          refine H.Ab (x := row bb _ _) (by repeat constructor) ?_
          refine H.Ab (x := row mb _ _) (by repeat constructor) ?_
          refine H.Aa (x := fam (chFam l cs) _) (by repeat constructor) ?_
          refine H.Aa (x := slc cp _ cc _ _ _) (by repeat constructor) ?_
          refine H.Aa (x := fam (fun r => pstH _ _) _) (by repeat constructor) ?_
          refine H.Aa (x := lst ((V.set i (X2 p2 c2)).map VV.own)) (by repeat constructor) ?_
          refine H.Aa (x := slc vp _ vc _ _ _) (by repeat constructor) ?_
          refine H.Aa (x := row lb _ _) (by repeat constructor) ?_
          have hX2w : (X2 p2 c2).w = { X.w with p := X.w.p ++ [(x.m.number, x.m.body.req)] } := by rw [hX2]
          refine H.imp (A' := logsH f lb { l with past := updF l.past r ((l.past r).prepare x.m.body.view), vs := l.vs.set i { X.w with p := X.w.p ++ [(x.m.number, x.m.body.req)] } } :: F) (fun z hz => zai (l := { l with past := updF l.past r ((l.past r).prepare x.m.body.view), vs := l.vs.set i { X.w with p := X.w.p ++ [(x.m.number, x.m.body.req)] } }) ⟨V.set i (X2 p2 c2), vp, vc, pp, pc, cp, cc, pb, cs⟩ ⟨?_, fun y hy => ?_, hiF.p⟩ z ?_) ?_
          ·show (V.set i (X2 p2 c2)).map VV.w = l.vs.set i _
           rw [List.map_set, hX2w, hvs]
          ·rcases List.mem_or_eq_of_mem_set hy with h | h
           ·exact hiF.s y h
           ·rw [h, hX2]
            exact hiF.s X (List.mem_of_getElem? hX)
          ·show stars (row lb _ (lgC l.n l.known vp (V.set i (X2 p2 c2)).length vc pp pc cp cc) :: slc vp (V.set i (X2 p2 c2)).length vc _ 4 _ :: _) z
           rw [List.length_set]
           exact hz
          ·exact H.Ac rfl rfl (fun _ h => h) (LgP.yes rfl)
      ·have hpd : decide (primZ l.n x.m.body.view = x.m.origin) = false := decide_eq_false hp
       rw [hpd, if_pos (.inl rfl)]
       refine gR ?_
       refine H.Aa (x := slc vp _ vc _ _ _) (by repeat constructor) ?_
       refine H.Aa (x := row lb _ _) (by repeat constructor) ?_
       refine H.Aa (x := row mb _ _) (by repeat constructor) ?_
       refine H.Aa (x := row bb _ _) (by repeat constructor) ?_
       refine H.Az (by kernel_rfl) (by decide +kernel) (by repeat (first | exact zab | refine zaa ?_ | refine zac ?_ | refine zae ?_)) (S := [_, _, _, _]) rfl ?_
       refine HB.Ag [(0, false), (1, false), (2, false), (3, false), (4, false), (5, false), (6, false), (7, false), (8, false)] 27 (by kernel_rfl) ?_
       refine gN ?_
       refine HQ.Ae rfl ?_
       refine HB.ev1 (i := 9) (by kernel_rfl) rfl ?_
       refine gF ?_
       refine H.on0 rfl ?_
       refine HB.Ag [(10, false), (11, false), (12, false), (13, false), (14, false), (15, false), (16, false), (17, false), (18, false), (19, false), (21, false), (22, false), (23, false), (24, false), (25, false), (26, false)] 10 (by kernel_rfl) ?_
       refine gN ?_
       refine HQ.Ae rfl ?_
       refine HB.ev1 (i := 20) (by kernel_rfl) rfl ?_
       refine gF ?_
       refine H.on0 rfl ?_
       refine HB.ev1 (i := 27) (by kernel_rfl) rfl ?_
       refine gF ?_
       refine H.on0 rfl ?_
       refine HB.Ag [(28, false), (29, false), (30, false), (31, false), (32, false)] 3 (by kernel_rfl) ?_
       refine gN ?_
       refine HQ.Ae rfl ?_
       refine HB.ev1 (i := 33) (by kernel_rfl) rfl ?_
       refine gF ?_
       refine H.on0 rfl ?_
       refine HB.Ag [(34, false), (35, false)] 0 (by kernel_rfl) ?_
       refine gN ?_
       refine HQ.Ae rfl ?_
       refine HB.Al (by kernel_rfl) ?_
       refine gG ?_
       refine H.Ab (x := row bb _ _) (by repeat constructor) ?_
       refine H.Ab (x := row mb _ _) (by repeat constructor) ?_
       refine H.Aa (x := fam (chFam l cs) _) (by repeat constructor) ?_
       refine H.Aa (x := slc cp _ cc _ _ _) (by repeat constructor) ?_
       refine H.Aa (x := fam (fun r => pstH _ _) _) (by repeat constructor) ?_
       refine H.Aa (x := lst (V.map VV.own)) (by repeat constructor) ?_
       refine H.Aa (x := slc vp _ vc _ _ _) (by repeat constructor) ?_
       refine H.Aa (x := row lb _ _) (by repeat constructor) ?_
       refine H.imp (zai ⟨V, vp, vc, pp, pc, cp, cc, pb, cs⟩ hiF) ?_
       refine H.Ac rfl rfl (fun _ h => h) (LgP.no ?_)
       rfl
    ·by_cases k2 : x.m.body.kind.toNat = 2
     ·have k2' : x.m.body.kind = 2 := UInt8.toNat_inj.1 k2
      cases hat : vwAt l.vs x.m.body.view with
      | none =>
       rw [Lgs.counts_2n k2' hat]
       rw [show vwZ l.vs x.m.body.view = -1 by unfold vwZ; rw [hat]]
       by_cases hp : primZ l.n x.m.body.view = x.m.origin
       ·skip
        refine gU ?_
        refine H.Ab (x := row bb _ _) (by repeat constructor) ?_
        refine H.Ab (x := row mb _ _) (by repeat constructor) ?_
        refine H.Aa (x := fam (chFam l cs) _) (by repeat constructor) ?_
        refine H.Aa (x := slc cp _ cc _ _ _) (by repeat constructor) ?_
        refine H.Aa (x := fam (fun r => pstH _ _) _) (by repeat constructor) ?_
        refine H.Aa (x := lst (V.map VV.own)) (by repeat constructor) ?_
        refine H.Aa (x := slc vp _ vc _ _ _) (by repeat constructor) ?_
        refine H.Aa (x := row lb _ _) (by repeat constructor) ?_
        refine H.imp (zai ⟨V, vp, vc, pp, pc, cp, cc, pb, cs⟩ hiF) ?_
        refine H.Ac rfl rfl (fun _ h => h) (LgP.no ?_)
        rfl
       ·skip
        refine gK ?_
        refine H.Ab (x := row bb _ _) (by repeat constructor) ?_
        refine H.Ab (x := row mb _ _) (by repeat constructor) ?_
        refine H.Aa (x := fam (chFam l cs) _) (by repeat constructor) ?_
        refine H.Aa (x := slc cp _ cc _ _ _) (by repeat constructor) ?_
        refine H.Aa (x := fam (fun r => pstH _ _) _) (by repeat constructor) ?_
        refine H.Aa (x := lst (V.map VV.own)) (by repeat constructor) ?_
        refine H.Aa (x := slc vp _ vc _ _ _) (by repeat constructor) ?_
        refine H.Aa (x := row lb _ _) (by repeat constructor) ?_
        refine H.imp (zai ⟨V, vp, vc, pp, pc, cp, cc, pb, cs⟩ hiF) ?_
        refine H.Ac rfl rfl (fun _ h => h) (LgP.no ?_)
        rfl
      | some i =>
       obtain ⟨⟨w, hw, hwv⟩, _⟩ := zav.1 hat
       obtain ⟨X, hX, rfl⟩ := hiF.of hw
       have hX : V[i]? = some X := hX
       have hilt := (List.getElem?_eq_some_iff.1 hX).1
       have hXl := hL.al X.w (List.mem_of_getElem? hw)
       have hXa := X.w.all_len
       refine H.Bq (p := vp) (n0 := V.length) (c := vc) (T := 195) (sz := 4) (xs := V.flatMap VV.vals) (by repeat constructor) (by omega) fun vb hvb => ?_
       have hVd : ∀ {A A' : List HP}, At A (slc vp V.length vc 195 4 (V.flatMap VV.vals)) A' (slc vp V.length vc 195 4 (V.flatMap VV.vals)) → Rd f A vb (i * 4) X.vals := fun {A A'} h => Rd.slcElem (n := V.length) (c := vc) (T := 195) (xs := V) VV.len (by decide) (by rw [← hvb]; exact h) hX
       rw [Lgs.counts_2 k2' hat hw, ← hpI, ← hre]
       rw [show vwZ l.vs x.m.body.view = (i : Int) by unfold vwZ; rw [hat]]
       by_cases hp : primZ l.n x.m.body.view = x.m.origin
       ·rw [if_pos (decide_eq_true hp)]
        refine gU ?_
        refine H.Ab (x := row bb _ _) (by repeat constructor) ?_
        refine H.Ab (x := row mb _ _) (by repeat constructor) ?_
        refine H.Aa (x := fam (chFam l cs) _) (by repeat constructor) ?_
        refine H.Aa (x := slc cp _ cc _ _ _) (by repeat constructor) ?_
        refine H.Aa (x := fam (fun r => pstH _ _) _) (by repeat constructor) ?_
        refine H.Aa (x := lst (V.map VV.own)) (by repeat constructor) ?_
        refine H.Aa (x := slc vp _ vc _ _ _) (by repeat constructor) ?_
        refine H.Aa (x := row lb _ _) (by repeat constructor) ?_
        refine H.imp (zai ⟨V, vp, vc, pp, pc, cp, cc, pb, cs⟩ hiF) ?_
        refine H.Ac rfl rfl (fun _ h => h) (LgP.no ?_)
        rfl
       ·rw [if_neg (by rw [decide_eq_false hp]; decide)]
        refine gK ?_
        refine H.Ar (b := vb) (off := 0) (i := i) rfl (by rw [← hvb]; rfl) rfl rfl hilt rfl ?_
        refine gP ?_
        refine H.Aa (x := slc vp _ vc _ _ _) (by repeat constructor) ?_
        refine H.Af rfl rfl rfl (Rd1.of (i := 2) (by rw [Nat.zero_add]; exact hVd (.here _ _ _)) rfl) rfl ?_
        refine gf ?_
        refine H.Aa (x := fam (chFam l cs) _) (by repeat constructor) ?_
        refine H.Aa (x := slc cp _ cc _ _ _) (by repeat constructor) ?_
        refine H.Aa (x := fam (fun r => pstH _ _) _) (by repeat constructor) ?_
        refine H.Aa (x := lst (V.map VV.own)) (by repeat constructor) ?_
        refine H.Aa (x := slc vp _ vc _ _ _) (by repeat constructor) ?_
        refine H.Aa (x := row lb _ _) (by repeat constructor) ?_
        refine H.Aa (x := row mb _ _) (by repeat constructor) ?_
        refine H.Aa (x := row bb _ _) (by repeat constructor) ?_
        refine H.Ax (ι := Nat × Nat) (fun s => [(10, .int .i64 (s.1 : Int)), (9, .int .i64 ((X.w.s.length + s.2 : Nat) : Int)), (8, .int .i64 (i : Int)), (5, .pointer (some ⟨pb r, 0, none⟩)), (0, .pointer (some ⟨lb, 0, none⟩)), (3, .pointer (some ⟨mb, 0, none⟩)), (6, .pointer (some ⟨bb, 0, none⟩))]) (fun _ => f) (fun _ => row bb 45 (x.m.body.vals x.qp x.qc) :: row mb 47 x.vals :: row lb 200 (lgC l.n l.known vp V.length vc pp pc cp cc) :: slc vp V.length vc 195 4 (V.flatMap VV.vals) :: lst (V.map VV.own) :: fam (fun r => pstH (pb r) (l.past r)) l.n :: slc cp l.n cc 232 1 (chRow l cs) :: fam (chFam l cs) l.n :: F)
         (fun s => s.1 ≤ X.w.p.length ∧ s.2 = ((X.w.p.take s.1).filter fun y => decide (y.1 ≤ x.m.deps pI)).length) (fun s => X.w.p.length - s.1) (0, 0) ⟨Nat.zero_le _, rfl⟩ ⟨rfl, rfl, rfl, rfl, rfl, rfl, rfl, trivial⟩ rfl rfl fun s hs => ?_
        obtain ⟨j, k⟩ := s
        obtain ⟨hj, hk⟩ : j ≤ X.w.p.length ∧ k = ((X.w.p.take j).filter fun y => decide (y.1 ≤ x.m.deps pI)).length := hs
        have hkl : k ≤ X.w.p.length := by
         rw [hk]
         refine Nat.le_trans (List.length_filter_le _ _) ?_
         rw [List.length_take]
         omega
        show H _ _ _ [(10, .int .i64 (j : Int)), (9, .int .i64 ((X.w.s.length + k : Nat) : Int)), _, _, _, _, _] f (row bb 45 (x.m.body.vals x.qp x.qc) :: row mb 47 x.vals :: row lb 200 (lgC l.n l.known vp V.length vc pp pc cp cc) :: slc vp V.length vc 195 4 (V.flatMap VV.vals) :: lst (V.map VV.own) :: fam (fun r => pstH (pb r) (l.past r)) l.n :: slc cp l.n cc 232 1 (chRow l cs) :: fam (chFam l cs) l.n :: F) _
        by_cases hjl : j < X.w.p.length
        ·obtain ⟨y, hy⟩ : ∃ y, X.w.p[j]? = some y := ⟨_, List.getElem?_eq_getElem hjl⟩
         have hfil := filt_take (p := fun y : Int × Req => decide (y.1 ≤ x.m.deps pI)) hy
         refine gY ?_
         refine H.Ar (b := vb) (off := 0) (i := i) rfl (by rw [← hvb]; rfl) rfl rfl hilt rfl ?_
         refine gP ?_
         refine H.Af rfl rfl rfl (Rd1.of (i := 3) (by rw [Nat.zero_add]; exact hVd (.there _ (.there _ (.there _ (.here _ _ _))))) rfl) rfl ?_
         refine gL ?_
         refine H.Aa (x := lst (V.map VV.own)) (by repeat constructor) ?_
         refine H.lstPull (x := X.own) (i := i) (by rw [List.getElem?_map, hX]; rfl) ?_
         refine H.Bq (p := X.pp) (n0 := X.w.p.length) (c := X.pc) (T := 241) (sz := 41) (xs := X.w.p.flatMap prepV) (.here _ _ _) (by omega) fun xb hxb => ?_
         have rdP : ∀ {A : List HP}, Rd f (X.own :: A) xb (j * 41) (prepV y) := fun {A} => Rd.slcElem (vals := prepV) (xs := X.w.p) (n := X.w.p.length) (c := X.pc) (T := 241) prepV_len (by decide) (by rw [← hxb]; exact .here _ _ _) hy
         refine H.Aa (x := slc vp _ vc _ _ _) (by repeat constructor) ?_
         refine H.Aa (x := row lb _ _) (by repeat constructor) ?_
         refine H.Aa (x := row mb _ _) (by repeat constructor) ?_
         refine H.Aa (x := row bb _ _) (by repeat constructor) ?_
         refine H.Aa (x := X.own) (by repeat constructor) ?_
         refine H.Az (by kernel_rfl) (by decide +kernel) (by repeat (first | exact zab | refine zaa ?_ | refine zac ?_ | refine zae ?_)) (S := [_, _, _, _, _]) rfl ?_
         refine HB.Ag [(0, false), (1, false), (2, false), (3, false), (4, false), (5, false), (6, false), (7, false), (8, false), (9, false), (10, false), (11, false), (12, false), (13, false), (14, false), (15, false), (16, false), (17, false), (20, false)] 5 (by kernel_rfl) ?_
         refine gW ?_
         refine HQ.Ar (b := vb) (off := 0) (i := i) rfl (by rw [← hvb]; rfl) rfl rfl hilt rfl ?_
         refine gE ?_
         refine HQ.Af rfl rfl rfl (Rd1.of (i := 3) (by rw [Nat.zero_add]; exact hVd (.there _ (.there _ (.there _ (.there _ (.here _ _ _)))))) rfl) rfl ?_
         refine gD ?_
         refine HQ.Ar (b := xb) (off := 0) (i := j) rfl (by rw [← hxb]; rfl) rfl rfl hjl rfl ?_
         refine gE ?_
         refine HQ.Af rfl rfl rfl (Rd1.of (i := 0) (by rw [Nat.zero_add]; exact rdP) rfl) rfl ?_
         refine gW ?_
         refine HQ.Ae rfl ?_
         refine HB.ev1 (i := 18) (by kernel_rfl) rfl ?_
         refine H.Ad rfl rfl rfl (hprim _) ?_
         refine gC ?_
         refine H.on0 rfl ?_
         refine HB.Ag [(19, false), (21, false), (22, false), (23, false)] 0 (by kernel_rfl) ?_
         refine gS ?_
         refine HQ.Aw (i := pI) rfl rfl rfl (by omega) hp11 rfl ?_
         refine HQ.Af rfl rfl rfl (by rw [Nat.mul_one]; exact Rd1.of (zan (m := x.m) (q := x.qp) (qc := x.qc) (.there _ (.there _ (.here _ _ _)))) (zam x.m.deps hp11)) rfl ?_
         refine gS ?_
         refine HQ.Ae rfl ?_
         refine HB.Al (by kernel_rfl) ?_
         refine H.Aa (x := lst ((V.map VV.own).set i emp)) (by repeat constructor) ?_
         refine H.Aa (x := X.own) (by repeat constructor) ?_
         refine H.lstBack (xs := V.map VV.own) (i := i) (by rw [List.getElem?_map, hX]; rfl) ?_
         refine H.Aa (x := fam (chFam l cs) _) (by repeat constructor) ?_
         refine H.Aa (x := slc cp _ cc _ _ _) (by repeat constructor) ?_
         refine H.Aa (x := fam (fun r => pstH _ _) _) (by repeat constructor) ?_
         refine H.Aa (x := lst (V.map VV.own)) (by repeat constructor) ?_
         refine H.Aa (x := slc vp _ vc _ _ _) (by repeat constructor) ?_
         refine H.Aa (x := row lb _ _) (by repeat constructor) ?_
         refine H.Aa (x := row mb _ _) (by repeat constructor) ?_
         refine H.Aa (x := row bb _ _) (by repeat constructor) ?_
         by_cases hle : y.1 ≤ x.m.deps pI
         ·rw [decide_eq_true hle, if_pos rfl] at hfil
          refine gX ?_
          exact H.Am (j + 1, k + 1) ⟨by show j + 1 ≤ X.w.p.length; omega, by rw [hfil, List.length_append, ← hk]; rfl⟩ (by show X.w.p.length - (j + 1) < X.w.p.length - j; omega) ⟨rfl, rfl, rfl, rfl, rfl, rfl, rfl, trivial⟩ rfl rfl
         ·rw [decide_eq_false hle, if_neg (by decide), List.append_nil] at hfil
          refine gT ?_
          exact H.Am (j + 1, k) ⟨by show j + 1 ≤ X.w.p.length; omega, by rw [hfil, ← hk]⟩ (by show X.w.p.length - (j + 1) < X.w.p.length - j; omega) ⟨rfl, rfl, rfl, rfl, rfl, rfl, rfl, trivial⟩ rfl rfl
        ·have e : j = X.w.p.length := by omega
         subst e
         rw [List.take_length] at hk
         have hkk : knowsV X.w (x.m.deps pI) = X.w.s.length + k := by unfold knowsV; rw [hk]
         rw [hkk]
         have hkr : 0 ≤ x.m.body.k ∧ x.m.body.k ≤ 18446744073709551615 := hx.2.2.2.1
         have hcom := fun G => pst_commit f G (pb r) (l.past r) hwf (by omega) (by omega) x.m.body.view x.m.body.k ((X.w.s.length + k : Nat) : Int) hkr (by omega)
         refine gY ?_
         refine H.Ar (b := vb) (off := 0) (i := i) rfl (by rw [← hvb]; rfl) rfl rfl hilt rfl ?_
         refine gP ?_
         refine H.Af rfl rfl rfl (Rd1.of (i := 3) (by rw [Nat.zero_add]; exact hVd (.there _ (.there _ (.there _ (.here _ _ _))))) rfl) rfl ?_
         refine gR ?_
         refine H.Aa (x := fam (fun r => pstH _ _) _) (by repeat constructor) ?_
         refine H.Cj hr ?_
         refine H.Ad rfl rfl rfl (hcom _) ?_
         refine H.famPut (g := fun r => pstH (pb r) (l.past r)) hr ?_
         rw [pst_updF]
         refine gf ?_
         refine H.Ab (x := row bb _ _) (by repeat constructor) ?_
         refine H.Ab (x := row mb _ _) (by repeat constructor) ?_
         refine H.Aa (x := fam (chFam l cs) _) (by repeat constructor) ?_
         refine H.Aa (x := slc cp _ cc _ _ _) (by repeat constructor) ?_
         refine H.Aa (x := fam (fun r => pstH _ _) _) (by repeat constructor) ?_
         refine H.Aa (x := lst (V.map VV.own)) (by repeat constructor) ?_
         refine H.Aa (x := slc vp _ vc _ _ _) (by repeat constructor) ?_
         refine H.Aa (x := row lb _ _) (by repeat constructor) ?_
         refine H.imp (zai (l := l.doPast r _) ⟨V, vp, vc, pp, pc, cp, cc, pb, cs⟩ ⟨hiF.vs, hiF.s, hiF.p⟩) ?_
         exact H.Ac rfl rfl (fun _ h => h) (LgP.yes rfl)
     ·have hk : l.counts x.m = (decide (x.m.body.kind = 6), l) := Lgs.counts_x (fun h => k3 (by rw [h]; rfl)) (fun h => k4 (by rw [h]; rfl)) (fun h => k5 (by rw [h]; rfl)) (fun h => k1 (by rw [h]; rfl)) (fun h => k2 (by rw [h]; rfl))
      rw [hk]
      by_cases k6 : x.m.body.kind.toNat = 6
      ·have k6' : x.m.body.kind = 6 := UInt8.toNat_inj.1 k6
       rw [decide_eq_true k6']
       refine gR ?_
       refine H.Ab (x := row bb _ _) (by repeat constructor) ?_
       refine H.Ab (x := row mb _ _) (by repeat constructor) ?_
       refine H.Aa (x := fam (chFam l cs) _) (by repeat constructor) ?_
       refine H.Aa (x := slc cp _ cc _ _ _) (by repeat constructor) ?_
       refine H.Aa (x := fam (fun r => pstH _ _) _) (by repeat constructor) ?_
       refine H.Aa (x := lst (V.map VV.own)) (by repeat constructor) ?_
       refine H.Aa (x := slc vp _ vc _ _ _) (by repeat constructor) ?_
       refine H.Aa (x := row lb _ _) (by repeat constructor) ?_
       refine H.imp (zai ⟨V, vp, vc, pp, pc, cp, cc, pb, cs⟩ hiF) ?_
       refine H.know (d := 4) (u := .bool true) rfl (by rw [decide_eq_true (by omega : ((x.m.body.kind.toNat : Nat) : Int) = 6)]) ?_
       exact H.Ac rfl rfl (fun _ h => h) (LgP.yes rfl)
      ·have e6 : decide (x.m.body.kind = 6) = false := decide_eq_false (fun h => k6 (by rw [h]; rfl))
       rw [e6]
       refine gR ?_
       refine H.Ab (x := row bb _ _) (by repeat constructor) ?_
       refine H.Ab (x := row mb _ _) (by repeat constructor) ?_
       refine H.Aa (x := fam (chFam l cs) _) (by repeat constructor) ?_
       refine H.Aa (x := slc cp _ cc _ _ _) (by repeat constructor) ?_
       refine H.Aa (x := fam (fun r => pstH _ _) _) (by repeat constructor) ?_
       refine H.Aa (x := lst (V.map VV.own)) (by repeat constructor) ?_
       refine H.Aa (x := slc vp _ vc _ _ _) (by repeat constructor) ?_
       refine H.Aa (x := row lb _ _) (by repeat constructor) ?_
       refine H.imp (zai ⟨V, vp, vc, pp, pc, cp, cc, pb, cs⟩ hiF) ?_
       refine H.know (d := 4) (u := .bool false) rfl (by rw [decide_eq_false (by omega : ¬ ((x.m.body.kind.toNat : Nat) : Int) = 6)]) ?_
       exact H.Ac rfl rfl (fun _ h => h) (LgP.yes rfl)
end
end Go.Proofs.YtoigpgdmignaoaaGreatDoor
