/- The row TopQuiet: its facts together. No conditions. -/
import Derived.Test.YtdpgpmbebbaoiaaGreatDoorZ14
import Derived.Test.YtdpgpmbebbaoiaaGreatDoorZYj
import Derived.Test.YtdpgpmbebbaoiaaGreatDoorZYk
import Derived.Test.YtdpgpmbebbaoiaaGreatDoorZYl
import Derived.Test.YtdpgpmbebbaoiaaGreatDoorZYm
import Derived.Test.YtdpgpmbebbaoiaaGreatDoorZYn
set_option linter.unusedSectionVars false
set_option linter.unusedSimpArgs false
set_option linter.unusedVariables false
namespace Go.Proofs.YtdpgpmbebbaoiaaGreatDoor
open Go Go.ChangeShapes Go.WideShapes Go.RowKit Go.Deep
set_option maxHeartbeats 6400000 in
theorem tq_closed:joinedFacts Tryz.pinned.checked.prog 3 Tryz.f3 Rows.topQuietSpec Rows.topQuietRow=true:=by
 unfold joinedFacts
 repeat' (with_reducible apply and_t)
 rotate_left
 ·exact Eq.trans (b:=laidOutB Tryz.prog) rfl Tryz.laidOut
 all_goals first|(with_reducible exact tq_inPlace)|(with_reducible exact tq_unfollowed)|(with_reducible exact tq_recurses)|(with_reducible exact tq_named)|kernel_rfl
end Go.Proofs.YtdpgpmbebbaoiaaGreatDoor
