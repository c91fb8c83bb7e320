/- Layer 15: LogNil, its row and its card. -/
import Derived.Test.YtdcjlgigcbinjaaGreatDoorZ06
import Derived.SevenTiedAt
import Derived.LaidByTextLater
set_option linter.unusedSectionVars false
set_option linter.unusedSimpArgs false
set_option linter.unusedVariables false
namespace Go.Proofs.YtdcjlgigcbinjaaGreatDoor
open Go Go.ChangeShapes Go.WideShapes Go.RowKit Go.Deep
set_option maxRecDepth 100000 in
theorem logNil_lifted (os : Os) (started : os.Started) (H' : Type) (enc : TypeId × Value → H') :
  ReturnsInHanded {} Tryz.checked os 10 .any (fun w args => (Rows.logNilSpec.pre enc Tryz.prog Tryz.f10 [] false w args ∧ laidMetH Tryz.prog laidL w) ∧ sizedMet enc Tryz.prog Tryz.f10 (OpenSpec.ofChange Rows.logNilSpec) false w args) (Rows.logNilSpec.post enc Tryz.prog Tryz.f10 false true false false) := by
 refine lawRowL (C := Tryz.checked) (laid := laidL) Tryz.own started (by kernel_rfl) Tryz.func10
  (ChangeSpec.witness_shaped (enc := enc) (C := Tryz.checked) (os := os) (X := fun w _ => laidMetH Tryz.prog laidL w) false (World.doorLaid Tryz.prog 400 os) #[.agg (msgZ.vals none 0).toArray] 8 rfl (World.shaped_of_RefB (by kernel_rfl) (by kernel_rfl)) (by kernel_rfl) (by kernel_rfl) (by kernel_rfl) (door_met os _))
  Tryz.underlying4 rfl rfl Tryz.laidOut (by kernel_rfl) (fun ds h => ?_) fun W args h hL => ?_
 ·match ds, h with
  | [d1], _ => rfl
 ·match args, h with
  | [v0], ⟨h0, _⟩ =>
   obtain ⟨cs, rfl, hr⟩ := h0.struct Tryz.underlying54
   obtain ⟨x, hx, hc⟩ := reads_msg hr
   have e : cs = x.vals.toArray := by rw [← hc]
   subst e
   exact logNil_fn (memOf W) [] (tab_of hL)
theorem logNil_row : Rows.LogNilSaid :=
 OpenClaim.holds_of_wide 10 Tryz.f10 rfl rfl rfl rfl rfl rfl rfl ⟨rfl, rfl, rfl, rfl, rfl⟩ rfl rfl rfl rfl rfl (by kernel_rfl) Tryz.func10 (by kernel_rfl)
  (of_decide_eq_true (by kernel_rfl)) (by unfold Func.isWrapper; first | (rw [if_pos (by decide +kernel)]; kernel_rfl) | (rw [if_neg (by decide +kernel)]; exact ⟨rfl, rfl⟩))
  (fun os started H' enc _ => logNil_lifted os started H' enc)
theorem logNil_holds : Rows.LogNilCardSaid :=
 Claim7.holds_tied_plain_at .later [] [.data] true _ false
  logNil_row (fun _ h => by cases h) (by kernel_rfl) (fun _ h => by cases h) logNil_row_tie rfl ⟨rfl, rfl⟩ (by kernel_rfl) rfl
  (fun f fn hf hfn => by
   obtain rfl : f = 10 := Option.some.inj ((show Tryz.prog.funcNamed "ratchet/ratchetlaw15.LogNil" = some 10 by kernel_rfl).symm.trans hf) |>.symm
   obtain rfl : fn = Tryz.f10 := (Option.some.inj (Tryz.func10.symm.trans hfn)).symm
   exact ⟨by kernel_rfl, params_plain (by kernel_rfl)⟩)
  (by kernel_rfl)
end Go.Proofs.YtdcjlgigcbinjaaGreatDoor
