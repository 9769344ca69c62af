/- CoupleBest, over data. -/
import Derived.Test.YtnneehniendnfaaGreatJLCR
import Derived.Test.YtnneehniendnfaaGreatGV
import Derived.Test.YtnneehniendnfaaGreatJDK
namespace Go.Proofs.YtnneehniendnfaaGreat
open Go Go.Proofs Go.Proofs.YtnneehniendnfaaGreat.E
set_option linter.unusedSimpArgs false
set_option linter.unusedVariables false
end Go.Proofs.YtnneehniendnfaaGreat
