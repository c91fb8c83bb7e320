/- Layer 8: MessageGets, its row and its card. -/
import Derived.Test.YtcaofnfemogleaaGreatDoorZ08
import Derived.SevenTiedAt
import Derived.LaidByTextLater
namespace Go.Proofs.YtcaofnfemogleaaGreatDoor
set_option linter.unusedSectionVars false
set_option linter.unusedSimpArgs false
set_option linter.unusedVariables false
open Go Go.ChangeShapes Go.WideShapes Go.RowKit Go.Deep
set_option maxRecDepth 100000 in
theorem messageGets_lifted (os : Os) (started : os.Started) (H' : Type) (enc : TypeId × Value → H') :
    ReturnsInHanded {} Tryz.checked os 3 .any (fun w args => (Rows.messageGetsSpec.pre enc Tryz.prog Tryz.f3 [] false w args ∧ laidMetH Tryz.prog laidL w) ∧ sizedMet enc Tryz.prog Tryz.f3 (OpenSpec.ofChange Rows.messageGetsSpec) false w args) (Rows.messageGetsSpec.post enc Tryz.prog Tryz.f3 false true false false) := by
  refine lawRowL (C := Tryz.checked) (laid := laidL) Tryz.own started (by kernel_rfl) Tryz.func3
    (ChangeSpec.witness_shaped (enc := enc) (C := Tryz.checked) (os := os) (X := fun w _ => laidMetH Tryz.prog laidL w) false (World.doorLaid Tryz.prog 400 os) #[.slice none 0 0, .int .i64 0, .int .u64 0, .agg (b32 noTag).toArray] 8 rfl (World.shaped_of_RefB (by kernel_rfl) (by kernel_rfl)) (by kernel_rfl) (by kernel_rfl) (by kernel_rfl) (door_met os _))
    Tryz.underlying4 rfl rfl Tryz.laidOut (by kernel_rfl) (fun ds h => ?_) fun W args h hL => ?_
  · match ds, h with
    | [d1, d2, d3, d4], _ => rfl
  · match args, h with
    | [v0, v1, v2, v3], ⟨h0, h1, h2, h3, _⟩ =>
      obtain ⟨p, c, raw, rfl, hc, _, hraw⟩ := h0.bytesC Tryz.underlying22
      obtain ⟨i, rfl, _⟩ := h1.int Tryz.underlying3
      obtain ⟨n, rfl, _⟩ := h2.int Tryz.underlying23
      obtain ⟨t, rfl⟩ := argOk_32 h3
      exact gets_fn (memOf W) [] (tab_of hL) hraw hc

theorem messageGets_row : Rows.MessageGetsSaid :=
  OpenClaim.holds_of_wide 3 Tryz.f3 rfl rfl rfl rfl rfl rfl rfl ⟨rfl, rfl, rfl, rfl, rfl⟩ rfl rfl rfl rfl rfl (by kernel_rfl) Tryz.func3 (by kernel_rfl)
    (of_decide_eq_true (by kernel_rfl)) (by unfold Func.isWrapper; first | (rw [if_pos (by decide +kernel)]; kernel_rfl) | (rw [if_neg (by decide +kernel)]; exact ⟨rfl, rfl⟩))
    (fun os started H' enc _ => messageGets_lifted os started H' enc)
theorem messageGets_holds : Rows.MessageGetsCardSaid :=
  Claim7.holds_tied_plain_at .later [] [.data] true _ false
    messageGets_row (fun _ h => by cases h) (by kernel_rfl) (fun _ h => by cases h) messageGets_row_tie rfl ⟨rfl, rfl⟩ (by kernel_rfl) rfl
    (fun f fn hf hfn => by
      obtain rfl : f = 3 := Option.some.inj ((show Tryz.prog.funcNamed "ratchet/ratchetlaw08.MessageGets" = some 3 by kernel_rfl).symm.trans hf) |>.symm
      obtain rfl : fn = Tryz.f3 := (Option.some.inj (Tryz.func3.symm.trans hfn)).symm
      exact ⟨by kernel_rfl, params_plain (by kernel_rfl)⟩)
    (by kernel_rfl)
end Go.Proofs.YtcaofnfemogleaaGreatDoor
