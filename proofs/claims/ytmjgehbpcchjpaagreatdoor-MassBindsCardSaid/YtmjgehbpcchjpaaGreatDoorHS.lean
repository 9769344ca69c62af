import Derived.Test.YtmjgehbpcchjpaaGreatDoorHR
import Derived.Test.YtmjgehbpcchjpaaGreatDoorHO
namespace Go.Proofs.YtmjgehbpcchjpaaGreatDoor
open Go Go.Proofs Go.Proofs.YtmjgehbpcchjpaaGreatDoor.E
set_option linter.unusedSimpArgs false
set_option linter.unusedVariables false
end Go.Proofs.YtmjgehbpcchjpaaGreatDoor
