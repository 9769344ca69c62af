/- Joined texts: CCou3, CCou4. -/
import Derived.Test.YtipbefckimdkkaaGreatGO
namespace Go.Proofs.YtipbefckimdkkaaGreat
open Go Go.Proofs Go.Proofs.YtipbefckimdkkaaGreat.E
set_option linter.unusedSimpArgs false
set_option linter.unusedVariables false
theorem E.toD_clo0 (σ : Sto) (f : Nat) : toD σ 12 (.clo f []) = some (.clo f []) := (rfl)
end Go.Proofs.YtipbefckimdkkaaGreat

namespace Go.Proofs.YtipbefckimdkkaaGreat
open Go Go.Proofs Go.Proofs.YtipbefckimdkkaaGreat.E
set_option linter.unusedSimpArgs false
set_option linter.unusedVariables false
end Go.Proofs.YtipbefckimdkkaaGreat
