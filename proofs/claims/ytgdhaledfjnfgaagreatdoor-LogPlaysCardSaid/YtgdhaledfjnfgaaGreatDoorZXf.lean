/- Layer 15: LogPlays, its row and its card. -/
import Derived.Test.YtgdhaledfjnfgaaGreatDoorZ10
import Derived.SevenTiedAt
import Derived.LaidByTextLater
set_option linter.unusedSectionVars false
set_option linter.unusedSimpArgs false
set_option linter.unusedVariables false
namespace Go.Proofs.YtgdhaledfjnfgaaGreatDoor
open Go Go.ChangeShapes Go.WideShapes Go.RowKit Go.Deep
set_option maxRecDepth 100000 in
theorem logPlays_lifted (os : Os) (started : os.Started) (H' : Type) (enc : TypeId × Value → H') :
  ReturnsInHanded {} Tryz.checked os 8 .any (fun w args => (Rows.logPlaysSpec.pre enc Tryz.prog Tryz.f8 [] false w args ∧ laidMetH Tryz.prog laidL w) ∧ sizedMet enc Tryz.prog Tryz.f8 (OpenSpec.ofChange Rows.logPlaysSpec) false w args) (Rows.logPlaysSpec.post enc Tryz.prog Tryz.f8 false true false false) := by
 refine lawRowL (C := Tryz.checked) (laid := laidL) Tryz.own started (by kernel_rfl) Tryz.func8
  (ChangeSpec.witness_shaped (enc := enc) (C := Tryz.checked) (os := os) (X := fun w _ => laidMetH Tryz.prog laidL w) false (World.doorLaid Tryz.prog 400 os) #[.int .u8 0, .slice none 0 0, .slice none 0 0, .slice none 0 0, .int .u64 0] 8 rfl (World.shaped_of_RefB (by kernel_rfl) (by kernel_rfl)) (by kernel_rfl) (by kernel_rfl) (by kernel_rfl) (door_met os _))
  Tryz.underlying4 rfl rfl Tryz.laidOut (by kernel_rfl) (fun ds h => ?_) fun W args h hL => ?_
 ·match ds, h with
  | [d1, d2, d3, d4, d5], _ => rfl
 ·match args, h with
  | [v0, v1, v2, v3, v4], ⟨h0, h1, h2, h3, h4, _⟩ =>
   obtain ⟨n8, rfl⟩ := h0.u8
   obtain ⟨p, c, xs, rfl, hl, hh, hat⟩ := h1.acts15
   obtain ⟨op, oc, os, rfl, hol, hos⟩ := h2.bytes Tryz.underlying62
   obtain ⟨wp, wc, raw, rfl, hr1, hr2, hrq, hraw⟩ := h3.list (sz := 121) (vals := MV.vals) (Q := fun x : MV => x.Has (memOf W)) Tryz.underlying34 (by kernel_rfl) (by decide) fun cs h => by
    obtain ⟨x, e1, e3⟩ := reads_msg h
    exact ⟨x, e1, e3⟩
   obtain ⟨v, rfl, _⟩ := h4.int Tryz.underlying31
   have hml : maxLen ≤ 9223372036854775807 := by decide
   exact logPlays_fn (memOf W) [] (tab_of hL) hat hh hl hos hol hraw hrq (by omega)
theorem logPlays_row : Rows.LogPlaysSaid :=
 OpenClaim.holds_of_wide 8 Tryz.f8 rfl rfl rfl rfl rfl rfl rfl ⟨rfl, rfl, rfl, rfl, rfl⟩ rfl rfl rfl rfl rfl (by kernel_rfl) Tryz.func8 (by kernel_rfl)
  (of_decide_eq_true (by kernel_rfl)) (by unfold Func.isWrapper; first | (rw [if_pos (by decide +kernel)]; kernel_rfl) | (rw [if_neg (by decide +kernel)]; exact ⟨rfl, rfl⟩))
  (fun os started H' enc _ => logPlays_lifted os started H' enc)
theorem logPlays_holds : Rows.LogPlaysCardSaid :=
 Claim7.holds_tied_plain_at .later [] [.data] true _ false
  logPlays_row (fun _ h => by cases h) (by kernel_rfl) (fun _ h => by cases h) logPlays_row_tie rfl ⟨rfl, rfl⟩ (by kernel_rfl) rfl
  (fun f fn hf hfn => by
   obtain rfl : f = 8 := Option.some.inj ((show Tryz.prog.funcNamed "ratchet/ratchetlaw15.LogPlays" = some 8 by kernel_rfl).symm.trans hf) |>.symm
   obtain rfl : fn = Tryz.f8 := (Option.some.inj (Tryz.func8.symm.trans hfn)).symm
   exact ⟨by kernel_rfl, params_plain (by kernel_rfl)⟩)
  (by kernel_rfl)
end Go.Proofs.YtgdhaledfjnfgaaGreatDoor
