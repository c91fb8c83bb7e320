/- TopQuiet: without failures nobody loses patience, and all is decided in view 0, in order; its row and its card. -/
import Derived.Test.YtdpgpmbebbaoiaaGreatDoorZ14
import Derived.Test.YtdpgpmbebbaoiaaGreatDoorZYo
import Derived.Test.YtdpgpmbebbaoiaaGreatDoorZYr
import Derived.Test.YtdpgpmbebbaoiaaGreatDoorZYs
import Derived.Test.YtdpgpmbebbaoiaaGreatDoorZYt
set_option linter.unusedSectionVars false
set_option linter.unusedSimpArgs false
set_option linter.unusedVariables false
namespace Go.Proofs.YtdpgpmbebbaoiaaGreatDoor
open Go Go.ChangeShapes Go.WideShapes Go.RowKit Go.Deep
theorem topQuiet_holds:Rows.TopQuietCardSaid:=
 Claim7.holds_tied_plain_at .later [] [.data,.data,.data,.data,.sentinel,.sentinel] true _ true
  topQuiet_row (fun _ h=>by cases h) tq_wf (fun _ h=>by cases h) topQuiet_row_tie rfl ⟨rfl,rfl⟩ tq_main rfl
  (fun f fn hf hfn => by
   obtain rfl:f=3:=Option.some.inj (tq_func.symm.trans hf) |>.symm
   obtain rfl:fn=Tryz.f3:=(Option.some.inj (Tryz.func3.symm.trans hfn)).symm
   exact⟨tq_looks,tq_params⟩)
  tq_goes
end Go.Proofs.YtdpgpmbebbaoiaaGreatDoor
