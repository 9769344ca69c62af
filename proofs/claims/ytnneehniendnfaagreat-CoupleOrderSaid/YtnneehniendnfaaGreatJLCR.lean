/- CoupleRights, over data. -/
import Derived.Test.YtnneehniendnfaaGreatGQ
import Derived.Test.YtnneehniendnfaaGreatGR
namespace Go.Proofs.YtnneehniendnfaaGreat
open Go Go.Proofs Go.Proofs.YtnneehniendnfaaGreat.E
set_option linter.unusedSimpArgs false
set_option linter.unusedVariables false
end Go.Proofs.YtnneehniendnfaaGreat
