/- Layer 8: MessageOwn, its row and its card. -/
import Derived.Test.YtcaofnfemogleaaDoorZ08
import Derived.SevenTiedAt
import Derived.LaidByTextLater
namespace Go.Proofs.YtcaofnfemogleaaDoor
set_option linter.unusedSectionVars false
set_option linter.unusedSimpArgs false
set_option linter.unusedVariables false
open Go Go.ChangeShapes Go.WideShapes Go.RowKit Go.Deep
set_option maxRecDepth 100000 in
theorem messageOwn_lifted (os : Os) (started : os.Started) (H' : Type) (enc : TypeId × Value → H') :
    ReturnsInHanded {} Tryd.checked os 6 .any (fun w args => (Rows.messageOwnSpec.pre enc Tryd.prog Tryd.f6 [] false w args ∧ laidMetH Tryd.prog laidL w) ∧ sizedMet enc Tryd.prog Tryd.f6 (OpenSpec.ofChange Rows.messageOwnSpec) false w args) (Rows.messageOwnSpec.post enc Tryd.prog Tryd.f6 false true false false) := by
  refine lawRowL (C := Tryd.checked) (laid := laidL) Tryd.own started (by kernel_rfl) Tryd.func6
    (ChangeSpec.witness_shaped (enc := enc) (C := Tryd.checked) (os := os) (X := fun w _ => laidMetH Tryd.prog laidL w) false (World.doorLaid Tryd.prog 400 os) #[.agg (msg0.vals none 0).toArray] 8 rfl (World.shaped_of_RefB (by kernel_rfl) (by kernel_rfl)) (by kernel_rfl) (by kernel_rfl) (by kernel_rfl) (door_met os _))
    Tryd.underlying4 rfl rfl Tryd.laidOut (by kernel_rfl) (fun ds h => ?_) fun W args h hL => ?_
  · match ds, h with
    | [d1], _ => rfl
  · match args, h with
    | [v0], ⟨h0, _⟩ =>
      obtain ⟨cs, rfl, hr⟩ := h0.struct Tryd.underlying34
      obtain ⟨x, hx, hxt, hc⟩ := reads_msgT hr
      have e : cs = x.vals.toArray := by rw [← hc]
      subst e
      exact mown_fn (memOf W) [] (tab_of hL) hx hxt

theorem messageOwn_row : Rows.MessageOwnSaid :=
  OpenClaim.holds_of_wide 6 Tryd.f6 rfl rfl rfl rfl rfl rfl rfl ⟨rfl, rfl, rfl, rfl, rfl⟩ rfl rfl rfl rfl rfl (by kernel_rfl) Tryd.func6 (by kernel_rfl)
    (of_decide_eq_true (by kernel_rfl)) (by unfold Func.isWrapper; first | (rw [if_pos (by decide +kernel)]; kernel_rfl) | (rw [if_neg (by decide +kernel)]; exact ⟨rfl, rfl⟩))
    (fun os started H' enc _ => messageOwn_lifted os started H' enc)
theorem messageOwn_holds : Rows.MessageOwnCardSaid :=
  Claim7.holds_tied_plain_at .later [] [.data] true _ false
    messageOwn_row (fun _ h => by cases h) (by kernel_rfl) (fun _ h => by cases h) messageOwn_row_tie rfl ⟨rfl, rfl⟩ (by kernel_rfl) rfl
    (fun f fn hf hfn => by
      obtain rfl : f = 6 := Option.some.inj ((show Tryd.prog.funcNamed "ratchet/ratchetlaw08.MessageOwn" = some 6 by kernel_rfl).symm.trans hf) |>.symm
      obtain rfl : fn = Tryd.f6 := (Option.some.inj (Tryd.func6.symm.trans hfn)).symm
      exact ⟨by kernel_rfl, params_plain (by kernel_rfl)⟩)
    (by kernel_rfl)
end Go.Proofs.YtcaofnfemogleaaDoor
