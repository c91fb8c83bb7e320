/- Layer 29: AuditSafe, its row and its card. -/
import Derived.Test.YtkaknokcbhiigaaGreatDoorZ10
import Derived.SevenTiedAt
import Derived.LaidByTextLater
set_option linter.unusedSectionVars false
set_option linter.unusedSimpArgs false
set_option linter.unusedVariables false
namespace Go.Proofs.YtkaknokcbhiigaaGreatDoor
open Go Go.ChangeShapes Go.WideShapes Go.RowKit Go.Deep
set_option maxRecDepth 100000 in
theorem auditSafe_lifted(os:Os)(started:os.Started)(H':Type)(enc:TypeId×Value→H'):
  ReturnsInHanded {} Tryz.checked os 5 .any (fun w args=>(Rows.auditSafeSpec.pre enc Tryz.prog Tryz.f5 [] false w args∧laidMetH Tryz.prog laidL w)∧sizedMet enc Tryz.prog Tryz.f5 (OpenSpec.ofChange Rows.auditSafeSpec) false w args) (Rows.auditSafeSpec.post enc Tryz.prog Tryz.f5 false true false false):=by
 refine lawRowL (C:=Tryz.checked) (laid:=laidL) Tryz.own started (by kernel_rfl) Tryz.func5
  (ChangeSpec.witness_shaped (enc:=enc) (C:=Tryz.checked) (os:=os) (X:=fun w _=>laidMetH Tryz.prog laidL w) false (World.doorLaid Tryz.prog 400 os) #[.int .u8 0,.slice none 0 0,.int .u8 0,.int .u8 0] 8 rfl (World.shaped_of_RefB (by kernel_rfl) (by kernel_rfl)) (by kernel_rfl) (by kernel_rfl) (by kernel_rfl) (door_met os _))
  Tryz.underlying4 rfl rfl Tryz.laidOut (by kernel_rfl) (fun ds h=>?_) fun W args h hL=>?_
 ·match ds,h with
  | [d1,d2,d3,d4],_=>rfl
 ·match args,h with
  | [v0, v1, v2, v3], ⟨h0, h1, h2, h3, _⟩ =>
   obtain⟨n8,rfl⟩:=h0.u8
   obtain⟨p,c,xs,rfl,hl,hh,hat⟩:=h1.acts15
   obtain⟨a8,rfl⟩:=h2.u8
   obtain⟨b8,rfl⟩:=ArgOk.u8 h3
   exact auditSafe_fn (memOf W) [] (tab_of hL) hat hh hl a8 b8
set_option maxHeartbeats 6400000 in
theorem auditSafe_row:Rows.AuditSafeSaid:=
 OpenClaim.holds_of_wide 5 Tryz.f5 rfl rfl rfl rfl rfl rfl rfl ⟨rfl,rfl,rfl,rfl,rfl⟩ rfl rfl rfl rfl rfl (by as_aux_lemma=>kernel_rfl) Tryz.func5 (by unfold joinedFacts;repeat' (with_reducible apply and_t);rotate_left;refine Eq.trans (b:=laidOutB Tryz.prog) ?_ Tryz.laidOut;all_goals as_aux_lemma=>kernel_rfl)
  (of_decide_eq_true (by as_aux_lemma=>kernel_rfl)) (by unfold Func.isWrapper;first|(rw[if_pos (by decide+kernel)];kernel_rfl)|(rw[if_neg (by decide+kernel)];exact⟨rfl,rfl⟩))
  (fun os started H' enc _=>auditSafe_lifted os started H' enc)
theorem auditSafe_holds:Rows.AuditSafeCardSaid:=
 Claim7.holds_tied_plain_at .later [] [.data] true _ false
  auditSafe_row (fun _ h=>by cases h) (by as_aux_lemma=>kernel_rfl) (fun _ h=>by cases h) auditSafe_row_tie rfl ⟨rfl,rfl⟩ (by as_aux_lemma=>kernel_rfl) rfl
  (fun f fn hf hfn => by
   obtain rfl : f = 5 := Option.some.inj ((show Tryz.prog.funcNamed "ratchet/ratchetlaw29.AuditSafe" = some 5 by kernel_rfl).symm.trans hf) |>.symm
   obtain rfl:fn=Tryz.f5:=(Option.some.inj (Tryz.func5.symm.trans hfn)).symm
   exact⟨by as_aux_lemma=>kernel_rfl,params_plain (by as_aux_lemma=>kernel_rfl)⟩)
  (by as_aux_lemma=>kernel_rfl)
end Go.Proofs.YtkaknokcbhiigaaGreatDoor
