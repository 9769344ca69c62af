/- PrivacyAts, over data. -/
import Derived.Test.YtipbefckimdkkaaGreatHC
import Derived.Test.YtipbefckimdkkaaGreatGQ
import Derived.Test.YtipbefckimdkkaaGreatHB
namespace Go.Proofs.YtipbefckimdkkaaGreat
open Go Go.Proofs Go.Proofs.YtipbefckimdkkaaGreat.E
set_option linter.unusedSimpArgs false
set_option linter.unusedVariables false
end Go.Proofs.YtipbefckimdkkaaGreat
