/- PrivacyThird, over data. -/
import Derived.Test.YtipbefckimdkkaaGreatHA
import Derived.Test.YtipbefckimdkkaaGreatGQ
import Derived.Test.YtipbefckimdkkaaGreatHB
namespace Go.Proofs.YtipbefckimdkkaaGreat
open Go Go.Proofs Go.Proofs.YtipbefckimdkkaaGreat.E
set_option linter.unusedSimpArgs false
set_option linter.unusedVariables false
theorem read_rat {l : List V} (h : ∃ n, Typed Tryz.prog n T.ratio l) : ∃ x : Raw, l = x.c ∧ x.Ok maxLen := by
  obtain ⟨n, h⟩ := h; exact read_raw h
end Go.Proofs.YtipbefckimdkkaaGreat
