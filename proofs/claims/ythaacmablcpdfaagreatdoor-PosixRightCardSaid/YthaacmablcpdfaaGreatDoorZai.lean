/- Ordered. -/
import Derived.Test.YthaacmablcpdfaaGreatDoorZah
namespace Go.Proofs.YthaacmablcpdfaaGreatDoor
open Go.RowKit
set_option linter.unusedVariables false
end Go.Proofs.YthaacmablcpdfaaGreatDoor
