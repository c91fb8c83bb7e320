/- TopQuiet's card: closed facts. No conditions. -/
import Derived.Test.YtdpgpmbebbaoiaaGreatDoorZ14
import Derived.Test.YtdpgpmbebbaoiaaGreatDoorZYp
import Derived.SevenTiedAt
import Derived.LaidByTextLater
namespace Go.Proofs.YtdpgpmbebbaoiaaGreatDoor
open Go Go.ChangeShapes Go.WideShapes Go.RowKit Go.Deep
theorem tq_looks:true=Tryz.pinned.checked.prog.looks []:=by kernel_rfl
theorem tq_main : Tryz.pinned.checked.prog.mainIs = some (true, "8d18dea88fc874e491f3288be8f0b23c41e9006b413de45afde8aa6da3de8b05".toList) := by kernel_rfl
theorem tq_wf:Rows.topQuietRow.wfByText (OpenSpec.ofChange Rows.topQuietSpec)=true:=by kernel_rfl
theorem tq_func : Tryz.prog.funcNamed "ratchet/ratchettop.TopQuiet" = some 3 := by kernel_rfl
end Go.Proofs.YtdpgpmbebbaoiaaGreatDoor
