/- PrivacyRests, over data. -/
import Derived.Test.YtipbefckimdkkaaGreatHE
import Derived.Test.YtipbefckimdkkaaGreatGQ
import Derived.Test.YtipbefckimdkkaaGreatHB
namespace Go.Proofs.YtipbefckimdkkaaGreat
open Go Go.Proofs Go.Proofs.YtipbefckimdkkaaGreat.E
set_option linter.unusedSimpArgs false
set_option linter.unusedVariables false
theorem many_few10 {l : List Part} (h : fewP l = true) : ∀ p ∈ l, manyT p.v ≤ 60 := by
 simp only [fewP, Bool.and_eq_true, List.all_eq_true, fewAt, decide_eq_true_eq] at h
 exact fun p hp => (h.2 p hp).1.1
end Go.Proofs.YtipbefckimdkkaaGreat
