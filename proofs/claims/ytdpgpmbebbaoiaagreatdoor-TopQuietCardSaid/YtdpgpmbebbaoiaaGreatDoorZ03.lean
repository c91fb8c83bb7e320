/- The simulation's runs with 11 replicas end well. No conditions. -/
import Derived.Test.YtdpgpmbebbaoiaaGreatDoorZ02
set_option linter.unusedSectionVars false
set_option linter.unusedSimpArgs false
set_option linter.unusedVariables false
namespace Go.Proofs.YtdpgpmbebbaoiaaGreatDoor
set_option maxRecDepth 1000000
theorem qgood11a:∀c,c<4→qgood 11 (c+1)=true:=by decide+kernel
theorem qgood11b:∀c,c<4→qgood 11 (c+5)=true:=by decide+kernel
end Go.Proofs.YtdpgpmbebbaoiaaGreatDoor
