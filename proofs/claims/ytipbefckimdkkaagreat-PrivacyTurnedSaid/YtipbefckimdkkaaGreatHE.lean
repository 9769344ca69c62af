import Derived.Test.YtipbefckimdkkaaGreatHD
import Derived.Test.YtipbefckimdkkaaGreatHC
namespace Go.Proofs.YtipbefckimdkkaaGreat
open Go Go.Proofs Go.Proofs.YtipbefckimdkkaaGreat.E
set_option linter.unusedSimpArgs false
set_option linter.unusedVariables false
end Go.Proofs.YtipbefckimdkkaaGreat
