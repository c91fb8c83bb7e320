/- Layer 21: CheckPlays, its row and its card. -/
import Derived.Test.YtdcjlgigcbinjaaGreatDoorZ08
import Derived.SevenTiedAt
import Derived.LaidByTextLater
set_option linter.unusedSectionVars false
set_option linter.unusedSimpArgs false
set_option linter.unusedVariables false
namespace Go.Proofs.YtdcjlgigcbinjaaGreatDoor
open Go Go.ChangeShapes Go.WideShapes Go.RowKit Go.Deep
theorem list3 {α : Type} : ∀ {l : List α}, l.length = 3 → ∃ a b c, l = [a, b, c]
 | [a, b, c], _ => ⟨a, b, c, rfl⟩
theorem reads_said {W : World} {cs : List Value} (h : Reads Tryz.prog W 57 cs) : ∃ x : Sd, ((0 ≤ x.k ∧ x.k ≤ 255) ∧ (0 ≤ x.d ∧ x.d ≤ 255)) ∧ cs = x.vals := by
 obtain ⟨hl, hf⟩ := h.struct Tryz.underlying57
 have hc : Tryz.prog.cellsOf 57 = 3 := by kernel_rfl
 have k0 : Tryz.prog.cellsOf 3 = 1 := by kernel_rfl
 have k1 : Tryz.prog.cellsOf 5 = 1 := by kernel_rfl
 have h0 : Reads Tryz.prog W 3 ((cs.drop 0).take (Tryz.prog.cellsOf 3)) := hf 0 _ rfl
 have h1 : Reads Tryz.prog W 5 ((cs.drop 1).take (Tryz.prog.cellsOf 5)) := hf 1 _ rfl
 have h2 : Reads Tryz.prog W 5 ((cs.drop 2).take (Tryz.prog.cellsOf 5)) := hf 2 _ rfl
 rw [k0] at h0
 rw [k1] at h1 h2
 rw [hc] at hl
 obtain ⟨z0, e0, _⟩ := h0.int Tryz.underlying3
 obtain ⟨z1, e1, hz1⟩ := h1.int Tryz.underlying5
 obtain ⟨z2, e2, hz2⟩ := h2.int Tryz.underlying5
 obtain ⟨c0, c1, c2, rfl⟩ := list3 hl
 have e0 : c0 = .int .i64 z0 := (List.cons.inj e0).1
 have e1 : c1 = .int .u8 z1 := (List.cons.inj e1).1
 have e2 : c2 = .int .u8 z2 := (List.cons.inj e2).1
 rw [e0, e1, e2]
 exact ⟨⟨z0, z1, z2⟩, ⟨hz1, hz2⟩, rfl⟩
set_option maxRecDepth 100000 in
theorem checkPlays_lifted (os : Os) (started : os.Started) (H' : Type) (enc : TypeId × Value → H') :
  ReturnsInHanded {} Tryz.checked os 3 .any (fun w args => (Rows.checkPlaysSpec.pre enc Tryz.prog Tryz.f3 [] false w args ∧ laidMetH Tryz.prog laidL w) ∧ sizedMet enc Tryz.prog Tryz.f3 (OpenSpec.ofChange Rows.checkPlaysSpec) false w args) (Rows.checkPlaysSpec.post enc Tryz.prog Tryz.f3 false true false false) := by
 refine lawRowL (C := Tryz.checked) (laid := laidL) Tryz.own started (by kernel_rfl) Tryz.func3
  (ChangeSpec.witness_shaped (enc := enc) (C := Tryz.checked) (os := os) (X := fun w _ => laidMetH Tryz.prog laidL w) false (World.doorLaid Tryz.prog 400 os) #[.int .u8 0, .slice none 0 0, .slice none 0 0, .slice none 0 0, .slice none 0 0] 8 rfl (World.shaped_of_RefB (by kernel_rfl) (by kernel_rfl)) (by kernel_rfl) (by kernel_rfl) (by kernel_rfl) (door_met os _))
  Tryz.underlying4 rfl rfl Tryz.laidOut (by kernel_rfl) (fun ds h => ?_) fun W args h hL => ?_
 ·match ds, h with
  | [d1, d2, d3, d4, d5], _ => rfl
 ·match args, h with
  | [v0, v1, v2, v3, v4], ⟨h0, h1, h2, h3, h4, _⟩ =>
   obtain ⟨n8, rfl⟩ := h0.u8
   obtain ⟨sp, sc, sd, rfl, hs1, hs2, hsq, hsat⟩ := h1.list (sz := 3) Tryz.underlying22 (by kernel_rfl) (by decide) fun cs => reads_said
   obtain ⟨p, c, xs, rfl, hl, hh, hat⟩ := h2.acts15
   obtain ⟨wp, wc, raw, rfl, hr1, hr2, hrq, hraw⟩ := h3.list (sz := 121) (vals := MV.vals) (Q := fun x : MV => x.Has (memOf W)) Tryz.underlying24 (by kernel_rfl) (by decide) fun cs h => by
    obtain ⟨x, e1, e2, e3⟩ := reads_msgT h
    exact ⟨x, e1, e3⟩
   obtain ⟨bp, bc, b, rfl, hb1, hb2, hb⟩ := h4.bytesC Tryz.underlying25
   have hml : maxLen ≤ 9223372036854775807 := by decide
   exact checkPlays_fn (memOf W) [] (tab_of hL) hsat hsq (by omega) hat hh hl hraw hrq (by omega) hb hb1 (by omega)
theorem checkPlays_row : Rows.CheckPlaysSaid :=
 OpenClaim.holds_of_wide 3 Tryz.f3 rfl rfl rfl rfl rfl rfl rfl ⟨rfl, rfl, rfl, rfl, rfl⟩ rfl rfl rfl rfl rfl (by kernel_rfl) Tryz.func3 (by kernel_rfl)
  (of_decide_eq_true (by kernel_rfl)) (by unfold Func.isWrapper; first | (rw [if_pos (by decide +kernel)]; kernel_rfl) | (rw [if_neg (by decide +kernel)]; exact ⟨rfl, rfl⟩))
  (fun os started H' enc _ => checkPlays_lifted os started H' enc)
theorem checkPlays_holds : Rows.CheckPlaysCardSaid :=
 Claim7.holds_tied_plain_at .later [] [.data] true _ false
  checkPlays_row (fun _ h => by cases h) (by kernel_rfl) (fun _ h => by cases h) checkPlays_row_tie rfl ⟨rfl, rfl⟩ (by kernel_rfl) rfl
  (fun f fn hf hfn => by
   obtain rfl : f = 3 := Option.some.inj ((show Tryz.prog.funcNamed "ratchet/ratchetlaw21.CheckPlays" = some 3 by kernel_rfl).symm.trans hf) |>.symm
   obtain rfl : fn = Tryz.f3 := (Option.some.inj (Tryz.func3.symm.trans hfn)).symm
   exact ⟨by kernel_rfl, params_plain (by kernel_rfl)⟩)
  (by kernel_rfl)
end Go.Proofs.YtdcjlgigcbinjaaGreatDoor
