/- Layer 24: NetCounts, its row. -/
import Derived.Test.YtcaofnfemogleaaZ08
namespace Go.Proofs.Ytcaofnfemogleaa
set_option linter.unusedSectionVars false
set_option linter.unusedSimpArgs false
set_option linter.unusedVariables false
open Go Go.RowKit
set_option maxRecDepth 100000 in
theorem netCounts_lifted (os : Os) (started : os.Started) (H' : Type) (enc : TypeId × Value → H') :
    ReturnsInHanded {} Try.checked os 5 .any (Rows.netCountsSpec.pre6 enc Try.prog Try.f5 Rows.netCountsRow.domain false) (Rows.netCountsSpec.post enc Try.prog Try.f5 false true false false) := by
  refine lawRow (C := Try.checked) Try.own started (by kernel_rfl) Try.func5
    (ChangeSpec.witness6 (enc := enc) (C := Try.checked) false ⟨#[], #[.slice none 0 0], []⟩ 8 (by kernel_rfl) (by kernel_rfl) (by kernel_rfl) (by kernel_rfl))
    Try.underlying4 rfl rfl Try.laidOut (by kernel_rfl) (fun ds h => ?_) fun W args h => ?_
  · match ds, h with
    | [d], _ => rfl
  · match args, h with
    | [v], ⟨h0, _⟩ =>
      obtain ⟨p, c, xs, rfl, _, _, hq, hat⟩ := h0.list (sz := 17) Try.underlying42 (by kernel_rfl) (by decide) fun cs => reads_step
      exact netCounts_fn (memOf W) [] hat hq

theorem netCounts_holds : Rows.NetCountsSaid :=
  OpenClaim.holds_of_wide 5 Try.f5 rfl rfl rfl rfl rfl rfl rfl ⟨rfl, rfl, rfl, rfl, rfl⟩ rfl rfl rfl rfl rfl (by kernel_rfl) Try.func5 (by kernel_rfl)
    (of_decide_eq_true (by kernel_rfl)) (by unfold Func.isWrapper; first | (rw [if_pos (by decide +kernel)]; kernel_rfl) | (rw [if_neg (by decide +kernel)]; exact ⟨rfl, rfl⟩))
    (fun os started H' enc _ => netCounts_lifted os started H' enc)
end Go.Proofs.Ytcaofnfemogleaa
