/- Layer 21: CheckQuorums, its row and its card. -/
import Derived.Test.YtcdpnloeheaclaaDoorZ07
namespace Go.Proofs.YtcdpnloeheaclaaDoor
set_option linter.unusedSectionVars false
set_option linter.unusedSimpArgs false
set_option linter.unusedVariables false
open Go Go.ChangeShapes Go.WideShapes Go.RowKit Go.Deep
set_option maxRecDepth 100000 in
theorem checkQuorums_lifted (os : Os) (started : os.Started) (H' : Type) (enc : TypeId × Value → H') :
    ReturnsInHanded {} Tryd.checked os 4 .any (fun w args => (Rows.checkQuorumsSpec.pre enc Tryd.prog Tryd.f4 [] false w args ∧ laidMetH Tryd.prog laidL w) ∧ sizedMet enc Tryd.prog Tryd.f4 (OpenSpec.ofChange Rows.checkQuorumsSpec) false w args) (Rows.checkQuorumsSpec.post enc Tryd.prog Tryd.f4 false true false false) := by
  refine lawRowL (C := Tryd.checked) (laid := laidL) Tryd.own started (by kernel_rfl) Tryd.func4
    (ChangeSpec.witness_shaped (enc := enc) (C := Tryd.checked) (os := os) (X := fun w _ => laidMetH Tryd.prog laidL w) false (World.doorLaid Tryd.prog 400 os) #[.int .u8 0, .slice none 0 0] 8 rfl (World.shaped_of_RefB (by kernel_rfl) (by kernel_rfl)) (by kernel_rfl) (by kernel_rfl) (by kernel_rfl) (door_met os _))
    Tryd.underlying4 rfl rfl Tryd.laidOut (by kernel_rfl) (fun ds h => ?_) fun W args h hL => ?_
  · match ds, h with
    | [d1, d2], _ => rfl
  · match args, h with
    | [v0, v1], ⟨h0, h1, _⟩ =>
      obtain ⟨z, rfl, hz⟩ := h0.int Tryd.underlying5
      obtain ⟨p, c, xs, rfl, _, _, hq, hat⟩ := h1.list (sz := 3) Tryd.underlying22 (by kernel_rfl) (by decide) fun cs => reads_said
      exact checkQuorums_fn (memOf W) [] (tab_of hL) hz hat hq

theorem checkQuorums_row : Rows.CheckQuorumsSaid :=
  OpenClaim.holds_of_wide 4 Tryd.f4 rfl rfl rfl rfl rfl rfl rfl ⟨rfl, rfl, rfl, rfl, rfl⟩ rfl rfl rfl rfl rfl (by kernel_rfl) Tryd.func4 (by kernel_rfl)
    (of_decide_eq_true (by kernel_rfl)) (by unfold Func.isWrapper; first | (rw [if_pos (by decide +kernel)]; kernel_rfl) | (rw [if_neg (by decide +kernel)]; exact ⟨rfl, rfl⟩))
    (fun os started H' enc _ => checkQuorums_lifted os started H' enc)
theorem checkQuorums_holds : Rows.CheckQuorumsCardSaid :=
  Claim7.holds_tied_plain_at .later [] [.data] true _ false
    checkQuorums_row (fun _ h => by cases h) (by kernel_rfl) (fun _ h => by cases h) checkQuorums_row_tie rfl ⟨rfl, rfl⟩ (by kernel_rfl) rfl
    (fun f fn hf hfn => by
      obtain rfl : f = 4 := Option.some.inj ((show Tryd.prog.funcNamed "ratchet/ratchetlaw21.CheckQuorums" = some 4 by kernel_rfl).symm.trans hf) |>.symm
      obtain rfl : fn = Tryd.f4 := (Option.some.inj (Tryd.func4.symm.trans hfn)).symm
      exact ⟨by kernel_rfl, params_plain (by kernel_rfl)⟩)
    (by kernel_rfl)
end Go.Proofs.YtcdpnloeheaclaaDoor
