/- TopQuiet's card: a closed fact. No conditions. -/
import Derived.Test.YtdpgpmbebbaoiaaGreatDoorZ14
import Derived.Test.YtdpgpmbebbaoiaaGreatDoorZYp
import Derived.SevenTiedAt
import Derived.LaidByTextLater
namespace Go.Proofs.YtdpgpmbebbaoiaaGreatDoor
open Go Go.ChangeShapes Go.WideShapes Go.RowKit Go.Deep
theorem tq_params:∀(j:Nat) t,Tryz.f3.params[j]?=some t→Tryz.pinned.checked.prog.wantsStandIn t=false:=params_plain (by as_aux_lemma=>kernel_rfl)
end Go.Proofs.YtdpgpmbebbaoiaaGreatDoor
