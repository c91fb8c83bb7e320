/- Layer 24: NetNil, its row. -/
import Derived.Test.YtcaofnfemogleaaZ07
namespace Go.Proofs.Ytcaofnfemogleaa
set_option linter.unusedSectionVars false
set_option linter.unusedSimpArgs false
set_option linter.unusedVariables false
open Go Go.RowKit
set_option maxRecDepth 100000 in
theorem netNil_lifted (os : Os) (started : os.Started) (H' : Type) (enc : TypeId × Value → H') :
    ReturnsInHanded {} Try.checked os 6 .any (Rows.netNilSpec.pre6 enc Try.prog Try.f6 Rows.netNilRow.domain false) (Rows.netNilSpec.post enc Try.prog Try.f6 false true false false) := by
  refine lawRow (C := Try.checked) Try.own started (by kernel_rfl) Try.func6
    (ChangeSpec.witness6 (enc := enc) (C := Try.checked) false ⟨#[], #[.agg #[.int .i64 0, .int .i64 0, .int .u64 0, .int .u64 0, .int .u64 0, .int .u64 0, .int .u64 0, .int .u64 0, .int .u64 0, .int .u64 0, .int .u64 0, .int .u64 0, .int .u64 0, .slice none 0 0], .int .i64 0], []⟩ 8 (by kernel_rfl) (by kernel_rfl) (by kernel_rfl) (by kernel_rfl))
    Try.underlying4 rfl rfl Try.laidOut (by kernel_rfl) (fun ds h => ?_) fun W args h => ?_
  · match ds, h with
    | [d1, d2], _ => rfl
  · match args, h with
    | [v, w], ⟨h0, h1, _⟩ =>
      obtain ⟨cs, rfl, hr⟩ := h0.struct Try.underlying34
      obtain ⟨p, hp, hc⟩ := reads_pkt hr
      obtain ⟨k, rfl, _⟩ := h1.int Try.underlying3
      have e : cs = p.vals.toArray := by rw [← hc]
      subst e
      exact netNil_fn (memOf W) [] p k hp.1

theorem netNil_holds : Rows.NetNilSaid :=
  OpenClaim.holds_of_wide 6 Try.f6 rfl rfl rfl rfl rfl rfl rfl ⟨rfl, rfl, rfl, rfl, rfl⟩ rfl rfl rfl rfl rfl (by kernel_rfl) Try.func6 (by kernel_rfl)
    (of_decide_eq_true (by kernel_rfl)) (by unfold Func.isWrapper; first | (rw [if_pos (by decide +kernel)]; kernel_rfl) | (rw [if_neg (by decide +kernel)]; exact ⟨rfl, rfl⟩))
    (fun os started H' enc _ => netNil_lifted os started H' enc)
end Go.Proofs.Ytcaofnfemogleaa
