/- sz at Raid. No condition. -/
import Derived.Test.YtfokpjoeankobaaFamDTo
import Derived.Test.YtfokpjoeankobaaChecked
namespace Go.Proofs.Ytfokpjoeankobaa
set_option linter.unusedVariables false
set_option linter.unusedSimpArgs false
set_option linter.unnecessarySimpa false
section
open Go.RowKit




end
section
open Go.RowKit

def sizeRaid (x : RaidD) : Nat := x.length + (x.map sizeDisk).sum

end
end Go.Proofs.Ytfokpjoeankobaa
