/- Layer 14: the laws' arguments; PastNil. -/
import Derived.Test.YtfplfddobjbbnaaPf
import Derived.Test.YtfplfddobjbbnaaEr
import Derived.Test.YtfplfddobjbbnaaRows
namespace Go.Proofs.Ytfplfddobjbbnaa
set_option linter.unusedSectionVars false
set_option linter.unusedSimpArgs false
set_option linter.unusedVariables false
open Go Go.RowKit

theorem Try.own : ownKnob Try.prog.godebug = none := by kernel_rfl
theorem Try.laidOut : laidOutB Try.prog = true := by kernel_rfl

theorem list4 {l : List Value} (h : l.length = 4) : ∃ a b c d, l = [a, b, c, d] := by
  match l, h with
  | [a, b, c, d], _ => exact ⟨a, b, c, d, rfl⟩
theorem reads_step {W : World} {cs : List Value} (h : Reads Try.prog W 30 cs) : ∃ x : Stp, x.Ok ∧ cs = x.vals := by
  obtain ⟨h1, h2⟩ := h.struct Try.underlying30
  rw [show Try.prog.cellsOf 30 = 4 by kernel_rfl] at h1
  obtain ⟨a, b, c, d, rfl⟩ := list4 h1
  have r0 := h2 0 _ rfl
  have r1 := h2 1 _ rfl
  have r2 := h2 2 _ rfl
  have r3 := h2 3 _ rfl
  obtain ⟨z0, e0, b0⟩ := r0.int Try.underlying5
  obtain ⟨z1, e1, b1⟩ := r1.int Try.underlying23
  obtain ⟨z2, e2, b2⟩ := r2.int Try.underlying23
  obtain ⟨z3, e3, b3⟩ := r3.int Try.underlying3
  have e0' : [a] = _ := e0
  have e1' : [b] = _ := e1
  have e2' : [c] = _ := e2
  have e3' : [d] = _ := e3
  cases e0'; cases e1'; cases e2'; cases e3'
  exact ⟨⟨z0, z1, z2, z3⟩, ⟨b0, b1, b2, b3⟩, rfl⟩

set_option maxRecDepth 100000 in
theorem pastNil_lifted (os : Os) (started : os.Started) (H' : Type) (enc : TypeId × Value → H') :
    ReturnsInHanded {} Try.checked os 5 .any (Rows.pastNilSpec.pre6 enc Try.prog Try.f5 Rows.pastNilRow.domain false) (Rows.pastNilSpec.post enc Try.prog Try.f5 false true false false) := by
  refine lawRow (C := Try.checked) Try.own started (by kernel_rfl) Try.func5
    (ChangeSpec.witness6 (enc := enc) (C := Try.checked) false ⟨#[], #[.agg #[.int .u8 0, .int .u64 0, .int .u64 0, .int .i64 0]], []⟩ 8 (by kernel_rfl) (by kernel_rfl) (by kernel_rfl) (by kernel_rfl))
    Try.underlying4 rfl rfl Try.laidOut (by kernel_rfl) (fun ds h => ?_) fun W args h => ?_
  · match ds, h with
    | [d], _ => rfl
  · match args, h with
    | [v], ⟨h0, _⟩ =>
      obtain ⟨cs, rfl, hr⟩ := h0.struct Try.underlying30
      obtain ⟨x, hx, hc⟩ := reads_step hr
      have e : cs = x.vals.toArray := by rw [← hc]
      subst e
      exact pastNil_fn (memOf W) [] x hx

theorem pastNil_holds : Rows.PastNilSaid :=
  OpenClaim.holds_of_wide 5 Try.f5 rfl rfl rfl rfl rfl rfl rfl ⟨rfl, rfl, rfl, rfl, rfl⟩ rfl rfl rfl rfl rfl (by kernel_rfl) Try.func5 (by kernel_rfl)
    (of_decide_eq_true (by kernel_rfl)) (by unfold Func.isWrapper; first | (rw [if_pos (by decide +kernel)]; kernel_rfl) | (rw [if_neg (by decide +kernel)]; exact ⟨rfl, rfl⟩))
    (fun os started H' enc _ => pastNil_lifted os started H' enc)
end Go.Proofs.Ytfplfddobjbbnaa
