/- The simulation's runs with 3, 5 and 7 replicas, and works, end well. No conditions. -/
import Derived.Test.YtdpgpmbebbaoiaaGreatDoorZ12
set_option linter.unusedSectionVars false
set_option linter.unusedSimpArgs false
set_option linter.unusedVariables false
namespace Go.Proofs.YtdpgpmbebbaoiaaGreatDoor
def qw2:Bool:=match qcalm 100 (qasks 4 (qnew 3))with
 | some w => (match qcalm 100 w with
  | some w => w.lon == 4 && (match w.rs with
   |r::_=>r.l.all (fun m=>!(m.k == 6)||m.a == 4)&&r.l.any (fun m=>m.k == 6&&m.o == 1)&&r.l.any (fun m=>m.k == 6&&m.o == 2)
   | []=>false)
  |none=>false)
 |none=>false
set_option maxRecDepth 1000000
theorem qw2_yes:qw2=true:=by decide+kernel
theorem qgood3:∀c,c<8→qgood 3 (c+1)=true:=by decide+kernel
theorem qgood5:∀c,c<8→qgood 5 (c+1)=true:=by decide+kernel
theorem qgood7:∀c,c<8→qgood 7 (c+1)=true:=by decide+kernel
end Go.Proofs.YtdpgpmbebbaoiaaGreatDoor
