/- Layer 24: NetOrder, its row. -/
import Derived.Test.YtcaofnfemogleaaZ08
namespace Go.Proofs.Ytcaofnfemogleaa
set_option linter.unusedSectionVars false
set_option linter.unusedSimpArgs false
set_option linter.unusedVariables false
open Go Go.RowKit
theorem reads_u8 {W : World} {cs : List Value} (h : Reads Try.prog W 5 cs) : ∃ x : Int, (0 ≤ x ∧ x ≤ 255) ∧ cs = byV x := by
  obtain ⟨z, rfl, hz⟩ := h.int Try.underlying5
  exact ⟨z, hz, rfl⟩
set_option maxRecDepth 100000 in
theorem netOrder_lifted (os : Os) (started : os.Started) (H' : Type) (enc : TypeId × Value → H') :
    ReturnsInHanded {} Try.checked os 3 .any (Rows.netOrderSpec.pre6 enc Try.prog Try.f3 Rows.netOrderRow.domain false) (Rows.netOrderSpec.post enc Try.prog Try.f3 false true false false) := by
  refine lawRow (C := Try.checked) Try.own started (by kernel_rfl) Try.func3
    (ChangeSpec.witness6 (enc := enc) (C := Try.checked) false ⟨#[], #[.slice none 0 0, .slice none 0 0, .int .u8 0, .slice none 0 0], []⟩ 8 (by kernel_rfl) (by kernel_rfl) (by kernel_rfl) (by kernel_rfl))
    Try.underlying4 rfl rfl Try.laidOut (by kernel_rfl) (fun ds h => ?_) fun W args h => ?_
  · match ds, h with
    | [d1, d2, d3, d4], _ => rfl
  · match args, h with
    | [v0, v1, v2, v3], ⟨h0, h1, h2, h3, _⟩ =>
      obtain ⟨p0, c0, xs, rfl, _, _, hq0, hat0⟩ := h0.list (sz := 1) Try.underlying22 (by kernel_rfl) (by decide) fun cs => reads_u8
      obtain ⟨p1, c1, ys, rfl, _, _, hq1, hat1⟩ := h1.list (sz := 1) Try.underlying22 (by kernel_rfl) (by decide) fun cs => reads_u8
      obtain ⟨z, rfl, hz⟩ := h2.int Try.underlying5
      obtain ⟨p3, c3, ts, rfl, _, _, hq3, hat3⟩ := h3.list (sz := 1) Try.underlying22 (by kernel_rfl) (by decide) fun cs => reads_u8
      exact netOrder_fn (memOf W) [] hat0 hat1 hat3 hq0 hq1 hq3 hz

theorem netOrder_holds : Rows.NetOrderSaid :=
  OpenClaim.holds_of_wide 3 Try.f3 rfl rfl rfl rfl rfl rfl rfl ⟨rfl, rfl, rfl, rfl, rfl⟩ rfl rfl rfl rfl rfl (by kernel_rfl) Try.func3 (by kernel_rfl)
    (of_decide_eq_true (by kernel_rfl)) (by unfold Func.isWrapper; first | (rw [if_pos (by decide +kernel)]; kernel_rfl) | (rw [if_neg (by decide +kernel)]; exact ⟨rfl, rfl⟩))
    (fun os started H' enc _ => netOrder_lifted os started H' enc)
end Go.Proofs.Ytcaofnfemogleaa
