/- Layer 8: MessageBack, its row and its card. -/
import Derived.Test.YtcaofnfemogleaaDoorZ08
import Derived.SevenTiedAt
import Derived.LaidByTextLater
namespace Go.Proofs.YtcaofnfemogleaaDoor
set_option linter.unusedSectionVars false
set_option linter.unusedSimpArgs false
set_option linter.unusedVariables false
open Go Go.ChangeShapes Go.WideShapes Go.RowKit Go.Deep
set_option maxRecDepth 100000 in
theorem messageBack_lifted (os : Os) (started : os.Started) (H' : Type) (enc : TypeId × Value → H') :
    ReturnsInHanded {} Tryd.checked os 4 .any (fun w args => (Rows.messageBackSpec.pre enc Tryd.prog Tryd.f4 [] false w args ∧ laidMetH Tryd.prog laidL w) ∧ sizedMet enc Tryd.prog Tryd.f4 (OpenSpec.ofChange Rows.messageBackSpec) false w args) (Rows.messageBackSpec.post enc Tryd.prog Tryd.f4 false true false false) := by
  refine lawRowL (C := Tryd.checked) (laid := laidL) Tryd.own started (by kernel_rfl) Tryd.func4
    (ChangeSpec.witness_shaped (enc := enc) (C := Tryd.checked) (os := os) (X := fun w _ => laidMetH Tryd.prog laidL w) false (World.doorLaid Tryd.prog 400 os) #[.agg (msg0.vals none 0).toArray, .agg (msg0.vals none 0).toArray, .slice none 0 0, .int .u16 0] 8 rfl (World.shaped_of_RefB (by kernel_rfl) (by kernel_rfl)) (by kernel_rfl) (by kernel_rfl) (by kernel_rfl) (door_met os _))
    Tryd.underlying4 rfl rfl Tryd.laidOut (by kernel_rfl) (fun ds h => ?_) fun W args h hL => ?_
  · match ds, h with
    | [d1, d2, d3, d4], _ => rfl
  · match args, h with
    | [v0, v1, v2, v3], ⟨h0, h1, h2, h3, _⟩ =>
      obtain ⟨cs, rfl, hr⟩ := h0.struct Tryd.underlying34
      obtain ⟨x, hx, hxt, hc⟩ := reads_msgT hr
      obtain ⟨cs1, rfl, hr1⟩ := h1.struct Tryd.underlying34
      obtain ⟨o, ho, hot, hc1⟩ := reads_msgT hr1
      obtain ⟨p, c, raw, rfl, _, hraw⟩ := h2.bytes Tryd.underlying38
      obtain ⟨z, rfl, hz⟩ := h3.int Tryd.underlying41
      obtain ⟨n, rfl⟩ := Int.eq_ofNat_of_zero_le (show 0 ≤ z from hz.1)
      have hn : (n : Int) ≤ 65535 := hz.2
      have e : cs = x.vals.toArray := by rw [← hc]
      have e1 : cs1 = o.vals.toArray := by rw [← hc1]
      subst e
      subst e1
      exact back_fn (memOf W) [] (tab_of hL) hx hxt ho hot hraw (by omega)

theorem messageBack_row : Rows.MessageBackSaid :=
  OpenClaim.holds_of_wide 4 Tryd.f4 rfl rfl rfl rfl rfl rfl rfl ⟨rfl, rfl, rfl, rfl, rfl⟩ rfl rfl rfl rfl rfl (by kernel_rfl) Tryd.func4 (by kernel_rfl)
    (of_decide_eq_true (by kernel_rfl)) (by unfold Func.isWrapper; first | (rw [if_pos (by decide +kernel)]; kernel_rfl) | (rw [if_neg (by decide +kernel)]; exact ⟨rfl, rfl⟩))
    (fun os started H' enc _ => messageBack_lifted os started H' enc)
theorem messageBack_holds : Rows.MessageBackCardSaid :=
  Claim7.holds_tied_plain_at .later [] [.data] true _ false
    messageBack_row (fun _ h => by cases h) (by kernel_rfl) (fun _ h => by cases h) messageBack_row_tie rfl ⟨rfl, rfl⟩ (by kernel_rfl) rfl
    (fun f fn hf hfn => by
      obtain rfl : f = 4 := Option.some.inj ((show Tryd.prog.funcNamed "ratchet/ratchetlaw08.MessageBack" = some 4 by kernel_rfl).symm.trans hf) |>.symm
      obtain rfl : fn = Tryd.f4 := (Option.some.inj (Tryd.func4.symm.trans hfn)).symm
      exact ⟨by kernel_rfl, params_plain (by kernel_rfl)⟩)
    (by kernel_rfl)
end Go.Proofs.YtcaofnfemogleaaDoor
