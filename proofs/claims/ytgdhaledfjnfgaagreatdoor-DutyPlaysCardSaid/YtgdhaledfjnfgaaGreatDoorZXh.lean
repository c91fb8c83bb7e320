/- Layer 19: DutyPlays, its row and its card. -/
import Derived.Test.YtgdhaledfjnfgaaGreatDoorZ11
import Derived.SevenTiedAt
import Derived.LaidByTextLater
set_option linter.unusedSectionVars false
set_option linter.unusedSimpArgs false
set_option linter.unusedVariables false
namespace Go.Proofs.YtgdhaledfjnfgaaGreatDoor
open Go Go.ChangeShapes Go.WideShapes Go.RowKit Go.Deep
set_option maxRecDepth 100000 in
theorem dutyPlays_lifted (os:Os) (started:os.Started) (H':Type) (enc:TypeId × Value→H') :
  ReturnsInHanded {} Tryz.checked os 9 .any (fun w args=>(Rows.dutyPlaysSpec.pre enc Tryz.prog Tryz.f9 [] false w args ∧ laidMetH Tryz.prog laidL w) ∧ sizedMet enc Tryz.prog Tryz.f9 (OpenSpec.ofChange Rows.dutyPlaysSpec) false w args) (Rows.dutyPlaysSpec.post enc Tryz.prog Tryz.f9 false true false false):=by
 refine lawRowW (C:=Tryz.checked) (laid:=laidL) Tryz.own started (by kernel_rfl) Tryz.func9
  (ChangeSpec.witness_shaped (enc:=enc) (C:=Tryz.checked) (os:=os) (X:=fun w _=>laidMetH Tryz.prog laidL w) false (World.doorLaid Tryz.prog 400 os) #[.int .u8 0,.slice none 0 0,.int .u8 0,.int .i64 0,.slice none 0 0,.int .u64 0] 8 rfl (World.shaped_of_RefB (by kernel_rfl) (by kernel_rfl)) (by kernel_rfl) (by kernel_rfl) (by kernel_rfl) (door_met os _))
  Tryz.underlying4 rfl rfl Tryz.laidOut (by kernel_rfl) (fun ds h=>?_) fun W args h hF hL=>?_
 ·match ds,h with
  | [d1,d2,d3,d4,d5,d6],_=>rfl
 ·match args,h,hF with
  | [v0, v1, v2, v3, v4, v5], ⟨h0, h1, h2, h3, h4, h5, _⟩, ⟨_, _, _, _, f4, _⟩ =>
   obtain ⟨n8,rfl⟩:=h0.u8
   obtain ⟨p,c,xs,rfl,hl,hh,hat⟩:=h1.acts15
   obtain ⟨w8,rfl⟩:=h2.u8
   obtain ⟨i,rfl,_⟩:=h3.int Tryz.underlying3
   obtain ⟨sp,sc,pend,rfl,_,_,_,hpe⟩:=h4.list (sz:=40) Tryz.underlying59 (by kernel_rfl) (by decide) fun cs=>reads_req
   obtain ⟨wish,rfl,_⟩:=h5.int Tryz.underlying31
   have h6:pend.length * Tryz.prog.bytesOf 44 ≤ 140737488351232:=f4 44 sp pend.length sc Tryz.underlying59 rfl
   rw [show Tryz.prog.bytesOf 44 = 128 by kernel_rfl] at h6
   exact dutyPlays_fn (memOf W) [] (tab_of hL) hat hh hl hpe (by omega)
theorem dutyPlays_row:Rows.DutyPlaysSaid:=
 OpenClaim.holds_of_wide 9 Tryz.f9 rfl rfl rfl rfl rfl rfl rfl ⟨rfl,rfl,rfl,rfl,rfl⟩ rfl rfl rfl rfl rfl (by kernel_rfl) Tryz.func9 (by kernel_rfl)
  (of_decide_eq_true (by kernel_rfl)) (by unfold Func.isWrapper;first | (rw [if_pos (by decide +kernel)];kernel_rfl) | (rw [if_neg (by decide +kernel)];exact ⟨rfl,rfl⟩))
  (fun os started H' enc _=>dutyPlays_lifted os started H' enc)
theorem dutyPlays_holds:Rows.DutyPlaysCardSaid:=
 Claim7.holds_tied_plain_at .later [] [.data] true _ false
  dutyPlays_row (fun _ h=>by cases h) (by kernel_rfl) (fun _ h=>by cases h) dutyPlays_row_tie rfl ⟨rfl,rfl⟩ (by kernel_rfl) rfl
  (fun f fn hf hfn => by
   obtain rfl : f = 9 := Option.some.inj ((show Tryz.prog.funcNamed "ratchet/ratchetlaw19.DutyPlays" = some 9 by kernel_rfl).symm.trans hf) |>.symm
   obtain rfl:fn = Tryz.f9:=(Option.some.inj (Tryz.func9.symm.trans hfn)).symm
   exact ⟨by kernel_rfl,params_plain (by kernel_rfl)⟩)
  (by kernel_rfl)
end Go.Proofs.YtgdhaledfjnfgaaGreatDoor
