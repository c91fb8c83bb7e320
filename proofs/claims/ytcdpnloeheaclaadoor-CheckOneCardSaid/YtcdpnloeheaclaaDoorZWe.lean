/- Layer 21: CheckOne, its row and its card. -/
import Derived.Test.YtcdpnloeheaclaaDoorZ07
import Derived.SevenTiedAt
import Derived.LaidByTextLater
namespace Go.Proofs.YtcdpnloeheaclaaDoor
set_option linter.unusedSectionVars false
set_option linter.unusedSimpArgs false
set_option linter.unusedVariables false
open Go Go.ChangeShapes Go.WideShapes Go.RowKit Go.Deep
theorem list3 {α : Type} : ∀ {l : List α}, l.length = 3 → ∃ a b c, l = [a, b, c]
  | [a, b, c], _ => ⟨a, b, c, rfl⟩
theorem reads_said {W : World} {cs : List Value} (h : Reads Tryd.prog W 34 cs) : ∃ x : Sd, ((0 ≤ x.k ∧ x.k ≤ 255) ∧ (0 ≤ x.d ∧ x.d ≤ 255)) ∧ cs = x.vals := by
  obtain ⟨hl, hf⟩ := h.struct Tryd.underlying34
  have hc : Tryd.prog.cellsOf 34 = 3 := by kernel_rfl
  have k0 : Tryd.prog.cellsOf 3 = 1 := by kernel_rfl
  have k1 : Tryd.prog.cellsOf 5 = 1 := by kernel_rfl
  have h0 : Reads Tryd.prog W 3 ((cs.drop 0).take (Tryd.prog.cellsOf 3)) := hf 0 _ rfl
  have h1 : Reads Tryd.prog W 5 ((cs.drop 1).take (Tryd.prog.cellsOf 5)) := hf 1 _ rfl
  have h2 : Reads Tryd.prog W 5 ((cs.drop 2).take (Tryd.prog.cellsOf 5)) := hf 2 _ rfl
  rw [k0] at h0
  rw [k1] at h1 h2
  rw [hc] at hl
  obtain ⟨z0, e0, _⟩ := h0.int Tryd.underlying3
  obtain ⟨z1, e1, hz1⟩ := h1.int Tryd.underlying5
  obtain ⟨z2, e2, hz2⟩ := h2.int Tryd.underlying5
  obtain ⟨c0, c1, c2, rfl⟩ := list3 hl
  have e0 : c0 = .int .i64 z0 := (List.cons.inj e0).1
  have e1 : c1 = .int .u8 z1 := (List.cons.inj e1).1
  have e2 : c2 = .int .u8 z2 := (List.cons.inj e2).1
  rw [e0, e1, e2]
  exact ⟨⟨z0, z1, z2⟩, ⟨hz1, hz2⟩, rfl⟩
set_option maxRecDepth 100000 in
theorem checkOne_lifted (os : Os) (started : os.Started) (H' : Type) (enc : TypeId × Value → H') :
    ReturnsInHanded {} Tryd.checked os 3 .any (fun w args => (Rows.checkOneSpec.pre enc Tryd.prog Tryd.f3 [] false w args ∧ laidMetH Tryd.prog laidL w) ∧ sizedMet enc Tryd.prog Tryd.f3 (OpenSpec.ofChange Rows.checkOneSpec) false w args) (Rows.checkOneSpec.post enc Tryd.prog Tryd.f3 false true false false) := by
  refine lawRowL (C := Tryd.checked) (laid := laidL) Tryd.own started (by kernel_rfl) Tryd.func3
    (ChangeSpec.witness_shaped (enc := enc) (C := Tryd.checked) (os := os) (X := fun w _ => laidMetH Tryd.prog laidL w) false (World.doorLaid Tryd.prog 400 os) #[.int .u8 0, .slice none 0 0] 8 rfl (World.shaped_of_RefB (by kernel_rfl) (by kernel_rfl)) (by kernel_rfl) (by kernel_rfl) (by kernel_rfl) (door_met os _))
    Tryd.underlying4 rfl rfl Tryd.laidOut (by kernel_rfl) (fun ds h => ?_) fun W args h hL => ?_
  · match ds, h with
    | [d1, d2], _ => rfl
  · match args, h with
    | [v0, v1], ⟨h0, h1, _⟩ =>
      obtain ⟨z, rfl, hz⟩ := h0.int Tryd.underlying5
      obtain ⟨p, c, xs, rfl, _, _, hq, hat⟩ := h1.list (sz := 3) Tryd.underlying22 (by kernel_rfl) (by decide) fun cs => reads_said
      exact checkOne_fn (memOf W) [] (tab_of hL) hz hat hq

theorem checkOne_row : Rows.CheckOneSaid :=
  OpenClaim.holds_of_wide 3 Tryd.f3 rfl rfl rfl rfl rfl rfl rfl ⟨rfl, rfl, rfl, rfl, rfl⟩ rfl rfl rfl rfl rfl (by kernel_rfl) Tryd.func3 (by kernel_rfl)
    (of_decide_eq_true (by kernel_rfl)) (by unfold Func.isWrapper; first | (rw [if_pos (by decide +kernel)]; kernel_rfl) | (rw [if_neg (by decide +kernel)]; exact ⟨rfl, rfl⟩))
    (fun os started H' enc _ => checkOne_lifted os started H' enc)
theorem checkOne_holds : Rows.CheckOneCardSaid :=
  Claim7.holds_tied_plain_at .later [] [.data] true _ false
    checkOne_row (fun _ h => by cases h) (by kernel_rfl) (fun _ h => by cases h) checkOne_row_tie rfl ⟨rfl, rfl⟩ (by kernel_rfl) rfl
    (fun f fn hf hfn => by
      obtain rfl : f = 3 := Option.some.inj ((show Tryd.prog.funcNamed "ratchet/ratchetlaw21.CheckOne" = some 3 by kernel_rfl).symm.trans hf) |>.symm
      obtain rfl : fn = Tryd.f3 := (Option.some.inj (Tryd.func3.symm.trans hfn)).symm
      exact ⟨by kernel_rfl, params_plain (by kernel_rfl)⟩)
    (by kernel_rfl)
end Go.Proofs.YtcdpnloeheaclaaDoor
