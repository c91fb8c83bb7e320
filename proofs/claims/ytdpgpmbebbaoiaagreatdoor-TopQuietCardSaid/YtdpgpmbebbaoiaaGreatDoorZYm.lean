/- The row TopQuiet: a fact of the program, recurses. No conditions. -/
import Derived.Test.YtdpgpmbebbaoiaaGreatDoorZ14
import Derived.Test.YtdpgpmbebbaoiaaGreatDoorRows
namespace Go.Proofs.YtdpgpmbebbaoiaaGreatDoor
open Go Go.Proofs.Tryz
theorem tq_recurses:(Rows.topQuietRow.recurses == Tryz.pinned.checked.prog.recurses 3)=true:=by kernel_rfl
end Go.Proofs.YtdpgpmbebbaoiaaGreatDoor
