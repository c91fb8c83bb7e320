/- TopQuiet's card: no function of the program starts another goroutine. No conditions. -/
import Derived.Test.YtdpgpmbebbaoiaaGreatDoorZ14
import Derived.Test.YtdpgpmbebbaoiaaGreatDoorZYp
import Derived.SevenTiedAt
import Derived.LaidByTextLater
namespace Go.Proofs.YtdpgpmbebbaoiaaGreatDoor
open Go Go.ChangeShapes Go.WideShapes Go.RowKit Go.Deep
theorem tq_none:Tryz.prog.funcs.any Func.goes=false:=by kernel_rfl
theorem none_goes{P:Program}(h:P.funcs.any Func.goes=false)(f:FuncId):P.goes f=false:=by
 unfold Program.goes
 rw[h,Bool.and_false,Bool.or_false,List.any_eq_false]
 intro g _ hg
 cases hf:P.funcs[g]? with
 |none=>rw[hf]at hg;cases hg
 | some fn =>
  rw[hf]at hg
  have hh:fn.goes=true:=hg
  obtain⟨hl,he⟩:=Array.getElem?_eq_some_iff.1 hf
  exact Array.any_eq_false.1 h g hl (he▸hh)
theorem none_goesBy{P:Program}(h:P.funcs.any Func.goes=false)(c:OpenClaim)(hs:c.start= .entering):false=c.goesBy P:=by
 unfold OpenClaim.goesBy Program.goesAt Program.goesFrom
 rw[hs]
 cases P.funcNamed c.func with
 |none=>rfl
 |some f=>show false=(P.goes f||false);rw[none_goes h];rfl
theorem tq_goes:false=Rows.topQuietRow.goesBy Tryz.pinned.checked.prog:=none_goesBy tq_none _ rfl
end Go.Proofs.YtdpgpmbebbaoiaaGreatDoor
