/- The simulation's runs with 9 replicas end well. No conditions. -/
import Derived.Test.YtdpgpmbebbaoiaaGreatDoorZ01
set_option linter.unusedSectionVars false
set_option linter.unusedSimpArgs false
set_option linter.unusedVariables false
namespace Go.Proofs.YtdpgpmbebbaoiaaGreatDoor
set_option maxRecDepth 1000000
theorem qgood9:∀c,c<8→qgood 9 (c+1)=true:=by decide+kernel
end Go.Proofs.YtdpgpmbebbaoiaaGreatDoor
