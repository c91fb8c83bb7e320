/- Layer 12: LorePlays, its row and its card. -/
import Derived.Test.YtoigpgdmignaoaaGreatDoorZ08
import Derived.SevenTiedAt
import Derived.LaidByTextLater
set_option linter.unusedSectionVars false
set_option linter.unusedSimpArgs false
set_option linter.unusedVariables false
namespace Go.Proofs.YtoigpgdmignaoaaGreatDoor
open Go Go.ChangeShapes Go.WideShapes Go.RowKit Go.Deep
set_option maxRecDepth 100000 in
theorem lorePlays_lifted (os : Os) (started : os.Started) (H' : Type) (enc : TypeId × Value → H') :
    ReturnsInHanded {} Tryz.checked os 5 .any (fun w args => (Rows.lorePlaysSpec.pre enc Tryz.prog Tryz.f5 [] false w args ∧ laidMetH Tryz.prog laidL w) ∧ sizedMet enc Tryz.prog Tryz.f5 (OpenSpec.ofChange Rows.lorePlaysSpec) false w args) (Rows.lorePlaysSpec.post enc Tryz.prog Tryz.f5 false true false false) := by
  refine lawRowL (C := Tryz.checked) (laid := laidL) Tryz.own started (by kernel_rfl) Tryz.func5
    (ChangeSpec.witness_shaped (enc := enc) (C := Tryz.checked) (os := os) (X := fun w _ => laidMetH Tryz.prog laidL w) false (World.doorLaid Tryz.prog 400 os) #[.int .u8 0, .slice none 0 0, .slice none 0 0, .slice none 0 0, .agg (v11 fun _ => 0).toArray, .int .i64 0] 8 rfl (World.shaped_of_RefB (by kernel_rfl) (by kernel_rfl)) (by kernel_rfl) (by kernel_rfl) (by kernel_rfl) (door_met os _))
    Tryz.underlying4 rfl rfl Tryz.laidOut (by kernel_rfl) (fun ds h => ?_) fun W args h hL => ?_
  · match ds, h with
    | [d1, d2, d3, d4, d5, d6], _ => rfl
  · match args, h with
    | [v0, v1, v2, v3, v4, v5], ⟨h0, h1, h2, h3, h4, h5, _⟩ =>
      obtain ⟨n8, rfl⟩ := h0.u8
      obtain ⟨p, c, xs, rfl, hl, hh, hat⟩ := h1.acts
      obtain ⟨op, oc, ord, rfl, hol, hord⟩ := h2.bytes Tryz.underlying55
      obtain ⟨wp, wc, raw, rfl, hr1, hr2, hrq, hraw⟩ := h3.list (sz := 121) (vals := MV.vals) (Q := fun x : MV => x.Has (memOf W) ∧ Pos x.m) Tryz.underlying32 (by kernel_rfl) (by decide) fun cs h => by
        obtain ⟨x, e1, e2, e3⟩ := reads_msgT h
        exact ⟨x, ⟨e1, e2.2⟩, e3⟩
      obtain ⟨v, rfl⟩ := argOk_vec h4
      obtain ⟨most, rfl, _⟩ := h5.int Tryz.underlying3
      have hml : maxLen ≤ 9223372036854775807 := by decide
      exact plays12_fn (memOf W) [] (tab_of hL) hat hh hl hord (by omega) hraw hrq (by omega)
theorem lorePlays_row : Rows.LorePlaysSaid :=
  OpenClaim.holds_of_wide 5 Tryz.f5 rfl rfl rfl rfl rfl rfl rfl ⟨rfl, rfl, rfl, rfl, rfl⟩ rfl rfl rfl rfl rfl (by kernel_rfl) Tryz.func5 (by kernel_rfl)
    (of_decide_eq_true (by kernel_rfl)) (by unfold Func.isWrapper; first | (rw [if_pos (by decide +kernel)]; kernel_rfl) | (rw [if_neg (by decide +kernel)]; exact ⟨rfl, rfl⟩))
    (fun os started H' enc _ => lorePlays_lifted os started H' enc)
theorem lorePlays_holds : Rows.LorePlaysCardSaid :=
  Claim7.holds_tied_plain_at .later [] [.data] true _ true
    lorePlays_row (fun _ h => by cases h) (by kernel_rfl) (fun _ h => by cases h) lorePlays_row_tie rfl ⟨rfl, rfl⟩ (by kernel_rfl) rfl
    (fun f fn hf hfn => by
      obtain rfl : f = 5 := Option.some.inj ((show Tryz.prog.funcNamed "ratchet/ratchetlaw12.LorePlays" = some 5 by kernel_rfl).symm.trans hf) |>.symm
      obtain rfl : fn = Tryz.f5 := (Option.some.inj (Tryz.func5.symm.trans hfn)).symm
      exact ⟨by kernel_rfl, params_plain (by kernel_rfl)⟩)
    (by kernel_rfl)
end Go.Proofs.YtoigpgdmignaoaaGreatDoor
