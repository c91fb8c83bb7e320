/- The row TopQuiet. -/
import Derived.Test.YtdpgpmbebbaoiaaGreatDoorZ14
import Derived.Test.YtdpgpmbebbaoiaaGreatDoorZYp
import Derived.SevenTiedAt
import Derived.LaidByTextLater
set_option linter.unusedSectionVars false
set_option linter.unusedSimpArgs false
set_option linter.unusedVariables false
namespace Go.Proofs.YtdpgpmbebbaoiaaGreatDoor
open Go Go.ChangeShapes Go.WideShapes Go.RowKit Go.Deep
set_option maxRecDepth 100000 in
theorem topQuiet_lifted(os:Os)(started:os.Started)(H':Type)(enc:TypeId×Value→H'):
  ReturnsInHanded {} Tryz.checked os 3 .any (fun w args=>(Rows.topQuietSpec.pre enc Tryz.prog Tryz.f3 [] false w args∧laidMetH Tryz.prog laidL w)∧sizedMet enc Tryz.prog Tryz.f3 (OpenSpec.ofChange Rows.topQuietSpec) false w args) (Rows.topQuietSpec.post enc Tryz.prog Tryz.f3 false true false false):=by
 refine lawRowL (C:=Tryz.checked) (laid:=laidL) Tryz.own started (by kernel_rfl) Tryz.func3
  (ChangeSpec.witness_shaped (enc:=enc) (C:=Tryz.checked) (os:=os) (X:=fun w _=>laidMetH Tryz.prog laidL w) false (World.doorLaid Tryz.prog 400 os) #[.int .u8 0,.int .u8 0] 8 rfl (World.shaped_of_RefB (by kernel_rfl) (by kernel_rfl)) (by kernel_rfl) (by kernel_rfl) (by kernel_rfl) (door_met os _))
  Tryz.underlying4 rfl rfl Tryz.laidOut (by kernel_rfl) (fun ds h=>?_) fun W args h hL=>?_
 ·match ds,h with
  | [d1,d2],_=>rfl
 ·match args,h with
  | [v0, v1], ⟨h0, h1, _⟩ =>
   obtain⟨z0,rfl,k0⟩:=ArgOk.int Tryz.underlying5 h0
   obtain⟨z1,rfl,k1⟩:=ArgOk.int Tryz.underlying5 h1
   exact topQuiet_fn (memOf W) [] (tab_of hL) k0 k1
set_option maxRecDepth 100000 in
set_option maxHeartbeats 6400000 in
theorem topQuiet_row:Rows.TopQuietSaid:=
 OpenClaim.holds_of_wide 3 Tryz.f3 rfl rfl rfl rfl rfl rfl rfl ⟨rfl,rfl,rfl,rfl,rfl⟩ rfl rfl rfl rfl rfl (by as_aux_lemma=>kernel_rfl) Tryz.func3 tq_closed
  (of_decide_eq_true (by as_aux_lemma=>kernel_rfl)) (by unfold Func.isWrapper;first|(rw[if_pos (by decide+kernel)];kernel_rfl)|(rw[if_neg (by decide+kernel)];exact⟨rfl,rfl⟩))
  (fun os started H' enc _=>topQuiet_lifted os started H' enc)
end Go.Proofs.YtdpgpmbebbaoiaaGreatDoor
