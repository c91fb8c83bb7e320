/- Layer 18: GossipPlays, its row and its card. -/
import Derived.Test.YtoigpgdmignaoaaGreatDoorZ09
import Derived.SevenTiedAt
import Derived.LaidByTextLater
set_option linter.unusedSectionVars false
set_option linter.unusedSimpArgs false
set_option linter.unusedVariables false
namespace Go.Proofs.YtoigpgdmignaoaaGreatDoor
open Go Go.ChangeShapes Go.WideShapes Go.RowKit Go.Deep
set_option maxRecDepth 100000 in
theorem gossipPlays_lifted (os : Os) (started : os.Started) (H' : Type) (enc : TypeId × Value → H') :
  ReturnsInHanded {} Tryz.checked os 12 .any (fun w args => (Rows.gossipPlaysSpec.pre enc Tryz.prog Tryz.f12 [] false w args ∧ laidMetH Tryz.prog laidL w) ∧ sizedMet enc Tryz.prog Tryz.f12 (OpenSpec.ofChange Rows.gossipPlaysSpec) false w args) (Rows.gossipPlaysSpec.post enc Tryz.prog Tryz.f12 false true false false) := by
 refine lawRowL (C := Tryz.checked) (laid := laidL) Tryz.own started (by kernel_rfl) Tryz.func12
  (ChangeSpec.witness_shaped (enc := enc) (C := Tryz.checked) (os := os) (X := fun w _ => laidMetH Tryz.prog laidL w) false (World.doorLaid Tryz.prog 400 os) #[.int .u8 0, .slice none 0 0, .slice none 0 0, .int .i64 0, .int .i64 0] 8 rfl (World.shaped_of_RefB (by kernel_rfl) (by kernel_rfl)) (by kernel_rfl) (by kernel_rfl) (by kernel_rfl) (door_met os _))
  Tryz.underlying4 rfl rfl Tryz.laidOut (by kernel_rfl) (fun ds h => ?_) fun W args h hL => ?_
 ·match ds, h with
  | [d1, d2, d3, d4, d5], _ => rfl
 ·match args, h with
  | [v0, v1, v2, v3, v4], ⟨h0, h1, h2, h3, h4, _⟩ =>
   obtain ⟨n8, rfl⟩ := h0.u8
   obtain ⟨p, c, xs, rfl, hl, hh, hat⟩ := h1.acts15
   obtain ⟨tp, tc, ss, rfl, hl2, hst⟩ := h2.steps18
   obtain ⟨j, rfl, _⟩ := h3.int Tryz.underlying3
   obtain ⟨most, rfl, _⟩ := h4.int Tryz.underlying3
   exact plays18_fn (memOf W) [] (tab_of hL) hat hh hl hst hl2 j most
theorem gossipPlays_row : Rows.GossipPlaysSaid :=
 OpenClaim.holds_of_wide 12 Tryz.f12 rfl rfl rfl rfl rfl rfl rfl ⟨rfl, rfl, rfl, rfl, rfl⟩ rfl rfl rfl rfl rfl (by kernel_rfl) Tryz.func12 (by kernel_rfl)
  (of_decide_eq_true (by kernel_rfl)) (by unfold Func.isWrapper; first | (rw [if_pos (by decide +kernel)]; kernel_rfl) | (rw [if_neg (by decide +kernel)]; exact ⟨rfl, rfl⟩))
  (fun os started H' enc _ => gossipPlays_lifted os started H' enc)
theorem gossipPlays_holds : Rows.GossipPlaysCardSaid :=
 Claim7.holds_tied_plain_at .later [] [.data] true _ true
  gossipPlays_row (fun _ h => by cases h) (by kernel_rfl) (fun _ h => by cases h) gossipPlays_row_tie rfl ⟨rfl, rfl⟩ (by kernel_rfl) rfl
  (fun f fn hf hfn => by
   obtain rfl : f = 12 := Option.some.inj ((show Tryz.prog.funcNamed "ratchet/ratchetlaw18.GossipPlays" = some 12 by kernel_rfl).symm.trans hf) |>.symm
   obtain rfl : fn = Tryz.f12 := (Option.some.inj (Tryz.func12.symm.trans hfn)).symm
   exact ⟨by kernel_rfl, params_plain (by kernel_rfl)⟩)
  (by kernel_rfl)
end Go.Proofs.YtoigpgdmignaoaaGreatDoor
