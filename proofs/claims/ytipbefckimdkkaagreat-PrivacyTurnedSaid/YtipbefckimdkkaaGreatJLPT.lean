/- PrivacyThird, over data. -/
import Derived.Test.YtipbefckimdkkaaGreatHA
import Derived.Test.YtipbefckimdkkaaGreatGQ
import Derived.Test.YtipbefckimdkkaaGreatHB
namespace Go.Proofs.YtipbefckimdkkaaGreat
open Go Go.Proofs Go.Proofs.YtipbefckimdkkaaGreat.E
set_option linter.unusedSimpArgs false
set_option linter.unusedVariables false
theorem read_listP {n : Nat} {vs : List V} (h : Typed Tryz.prog n T.parts vs) : ∃ ps : List Part, vs = [pl ps] ∧ ps.length ≤ maxLen ∧ ∀ p ∈ ps, p.Ok maxLen := by
 have h0 := h
 obtain ⟨l, rfl, _⟩ := E.typed_sl (e := T.part) (by kernel_rfl) h
 obtain ⟨ps, rfl, h1, h2⟩ := read_parts ⟨n, h0⟩
 exact ⟨ps, rfl, h1, h2⟩
theorem read_rat {l : List V} (h : ∃ n, Typed Tryz.prog n T.ratio l) : ∃ x : Raw, l = x.c ∧ x.Ok maxLen := by
 obtain ⟨n, h⟩ := h; exact read_raw h
theorem cmpR_lez {a b : Rat} : cmpR a b ≤ 0 ↔ a ≤ b := cmpR_le
end Go.Proofs.YtipbefckimdkkaaGreat
