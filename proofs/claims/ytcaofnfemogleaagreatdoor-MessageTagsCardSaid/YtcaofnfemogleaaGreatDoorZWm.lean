/- Layer 8: MessageTags, its row and its card. -/
import Derived.Test.YtcaofnfemogleaaGreatDoorZ08
import Derived.SevenTiedAt
import Derived.LaidByTextLater
namespace Go.Proofs.YtcaofnfemogleaaGreatDoor
set_option linter.unusedSectionVars false
set_option linter.unusedSimpArgs false
set_option linter.unusedVariables false
open Go Go.ChangeShapes Go.WideShapes Go.RowKit Go.Deep
set_option maxRecDepth 100000 in
theorem messageTags_lifted (os : Os) (started : os.Started) (H' : Type) (enc : TypeId × Value → H') :
    ReturnsInHanded {} Tryz.checked os 5 .any (fun w args => (Rows.messageTagsSpec.pre enc Tryz.prog Tryz.f5 [] false w args ∧ laidMetH Tryz.prog laidL w) ∧ sizedMet enc Tryz.prog Tryz.f5 (OpenSpec.ofChange Rows.messageTagsSpec) false w args) (Rows.messageTagsSpec.post enc Tryz.prog Tryz.f5 false true false false) := by
  refine lawRowL (C := Tryz.checked) (laid := laidL) Tryz.own started (by kernel_rfl) Tryz.func5
    (ChangeSpec.witness_shaped (enc := enc) (C := Tryz.checked) (os := os) (X := fun w _ => laidMetH Tryz.prog laidL w) false (World.doorLaid Tryz.prog 400 os) #[.agg (msg0.vals none 0).toArray, .int .u8 0, .int .u8 0] 8 rfl (World.shaped_of_RefB (by kernel_rfl) (by kernel_rfl)) (by kernel_rfl) (by kernel_rfl) (by kernel_rfl) (door_met os _))
    Tryz.underlying4 rfl rfl Tryz.laidOut (by kernel_rfl) (fun ds h => ?_) fun W args h hL => ?_
  · match ds, h with
    | [d1, d2, d3], _ => rfl
  · match args, h with
    | [v0, v1, v2], ⟨h0, h1, h2, _⟩ =>
      obtain ⟨cs, rfl, hr⟩ := h0.struct Tryz.underlying36
      obtain ⟨x, hx, hc⟩ := reads_msg hr
      obtain ⟨z, rfl, hz⟩ := h1.int Tryz.underlying5
      obtain ⟨n, rfl⟩ := Int.eq_ofNat_of_zero_le (show 0 ≤ z from hz.1)
      have hn : (n : Int) ≤ 255 := hz.2
      obtain ⟨w, rfl, hw⟩ := h2.int Tryz.underlying5
      have e : cs = x.vals.toArray := by rw [← hc]
      subst e
      have e2 : w = (((UInt8.ofNat w.toNat).toNat : Nat) : Int) := (u8_back hw).symm
      rw [e2]
      exact tags_fn (memOf W) [] (tab_of hL) hx (by omega)

theorem messageTags_row : Rows.MessageTagsSaid :=
  OpenClaim.holds_of_wide 5 Tryz.f5 rfl rfl rfl rfl rfl rfl rfl ⟨rfl, rfl, rfl, rfl, rfl⟩ rfl rfl rfl rfl rfl (by kernel_rfl) Tryz.func5 (by kernel_rfl)
    (of_decide_eq_true (by kernel_rfl)) (by unfold Func.isWrapper; first | (rw [if_pos (by decide +kernel)]; kernel_rfl) | (rw [if_neg (by decide +kernel)]; exact ⟨rfl, rfl⟩))
    (fun os started H' enc _ => messageTags_lifted os started H' enc)
theorem messageTags_holds : Rows.MessageTagsCardSaid :=
  Claim7.holds_tied_plain_at .later [] [.data] true _ false
    messageTags_row (fun _ h => by cases h) (by kernel_rfl) (fun _ h => by cases h) messageTags_row_tie rfl ⟨rfl, rfl⟩ (by kernel_rfl) rfl
    (fun f fn hf hfn => by
      obtain rfl : f = 5 := Option.some.inj ((show Tryz.prog.funcNamed "ratchet/ratchetlaw08.MessageTags" = some 5 by kernel_rfl).symm.trans hf) |>.symm
      obtain rfl : fn = Tryz.f5 := (Option.some.inj (Tryz.func5.symm.trans hfn)).symm
      exact ⟨by kernel_rfl, params_plain (by kernel_rfl)⟩)
    (by kernel_rfl)
end Go.Proofs.YtcaofnfemogleaaGreatDoor
