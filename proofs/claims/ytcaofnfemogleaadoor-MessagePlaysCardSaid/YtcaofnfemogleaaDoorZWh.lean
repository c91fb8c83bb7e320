/- Layer 8: MessagePlays, its row and its card. -/
import Derived.Test.YtcaofnfemogleaaDoorZ07
import Derived.SevenTiedAt
import Derived.LaidByTextLater
namespace Go.Proofs.YtcaofnfemogleaaDoor
set_option linter.unusedSectionVars false
set_option linter.unusedSimpArgs false
set_option linter.unusedVariables false
open Go Go.ChangeShapes Go.WideShapes Go.RowKit Go.Deep
set_option maxRecDepth 100000 in
theorem messagePlays_lifted (os : Os) (started : os.Started) (H' : Type) (enc : TypeId × Value → H') :
    ReturnsInHanded {} Tryd.checked os 3 .any (fun w args => (Rows.messagePlaysSpec.pre enc Tryd.prog Tryd.f3 [] false w args ∧ laidMetH Tryd.prog laidL w) ∧ sizedMet enc Tryd.prog Tryd.f3 (OpenSpec.ofChange Rows.messagePlaysSpec) false w args) (Rows.messagePlaysSpec.post enc Tryd.prog Tryd.f3 false true false false) := by
  refine lawRowL (C := Tryd.checked) (laid := laidL) Tryd.own started (by kernel_rfl) Tryd.func3
    (ChangeSpec.witness_shaped (enc := enc) (C := Tryd.checked) (os := os) (X := fun w _ => laidMetH Tryd.prog laidL w) false (World.doorLaid Tryd.prog 400 os) #[.agg (msg0.vals none 0).toArray, .bool false] 8 rfl (World.shaped_of_RefB (by kernel_rfl) (by kernel_rfl)) (by kernel_rfl) (by kernel_rfl) (by kernel_rfl) (door_met os _))
    Tryd.underlying4 rfl rfl Tryd.laidOut (by kernel_rfl) (fun ds h => ?_) fun W args h hL => ?_
  · match ds, h with
    | [d1, d2], _ => rfl
  · match args, h with
    | [v0, v1], ⟨h0, h1, _⟩ =>
      obtain ⟨cs, rfl, hr⟩ := h0.struct Tryd.underlying34
      obtain ⟨x, hx, hc⟩ := reads_msg hr
      obtain ⟨⟨_, h1b⟩, _⟩ := h1
      obtain ⟨own, rfl⟩ := okWide_bool Tryd.underlying4 h1b
      have e : cs = x.vals.toArray := by rw [← hc]
      subst e
      exact plays_fn (memOf W) [] (tab_of hL) hx

theorem messagePlays_row : Rows.MessagePlaysSaid :=
  OpenClaim.holds_of_wide 3 Tryd.f3 rfl rfl rfl rfl rfl rfl rfl ⟨rfl, rfl, rfl, rfl, rfl⟩ rfl rfl rfl rfl rfl (by kernel_rfl) Tryd.func3 (by kernel_rfl)
    (of_decide_eq_true (by kernel_rfl)) (by unfold Func.isWrapper; first | (rw [if_pos (by decide +kernel)]; kernel_rfl) | (rw [if_neg (by decide +kernel)]; exact ⟨rfl, rfl⟩))
    (fun os started H' enc _ => messagePlays_lifted os started H' enc)
theorem messagePlays_holds : Rows.MessagePlaysCardSaid :=
  Claim7.holds_tied_plain_at .later [] [.data] true _ false
    messagePlays_row (fun _ h => by cases h) (by kernel_rfl) (fun _ h => by cases h) messagePlays_row_tie rfl ⟨rfl, rfl⟩ (by kernel_rfl) rfl
    (fun f fn hf hfn => by
      obtain rfl : f = 3 := Option.some.inj ((show Tryd.prog.funcNamed "ratchet/ratchetlaw08.MessagePlays" = some 3 by kernel_rfl).symm.trans hf) |>.symm
      obtain rfl : fn = Tryd.f3 := (Option.some.inj (Tryd.func3.symm.trans hfn)).symm
      exact ⟨by kernel_rfl, params_plain (by kernel_rfl)⟩)
    (by kernel_rfl)
end Go.Proofs.YtcaofnfemogleaaDoor
