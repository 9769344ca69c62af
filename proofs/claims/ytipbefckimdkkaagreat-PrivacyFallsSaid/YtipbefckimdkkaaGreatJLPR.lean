/- PrivacyRests, over data. -/
import Derived.Test.YtipbefckimdkkaaGreatHE
import Derived.Test.YtipbefckimdkkaaGreatGQ
import Derived.Test.YtipbefckimdkkaaGreatHB
namespace Go.Proofs.YtipbefckimdkkaaGreat
open Go Go.Proofs Go.Proofs.YtipbefckimdkkaaGreat.E
set_option linter.unusedSimpArgs false
set_option linter.unusedVariables false
theorem read_rat2 {l : List V} (h : ∃ n, Typed Tryz.prog n T.rat2 l) : ∃ c : Cor, l = corC c ∧ c.r.Ok maxLen ∧ c.s.Ok maxLen := by
 obtain ⟨n, h⟩ := h
 obtain ⟨m, _, h⟩ := E.typed_ar (m := 2) (e := T.ratio) (by kernel_rfl) h
 obtain ⟨a, y, rfl, ha, h⟩ := E.all_cons h
 obtain ⟨b, z, rfl, hb, h⟩ := E.all_cons h
 have := E.all_nil h
 subst this
 obtain ⟨x, rfl, hx⟩ := read_raw ha
 obtain ⟨y, rfl, hy⟩ := read_raw hb
 exact ⟨⟨x, y⟩, by simp [corC], hx, hy⟩
end Go.Proofs.YtipbefckimdkkaaGreat
