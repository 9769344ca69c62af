/- PrivacyThird, over data. -/
import Derived.Test.YtipbefckimdkkaaGreatHA
import Derived.Test.YtipbefckimdkkaaGreatGQ
import Derived.Test.YtipbefckimdkkaaGreatHB
namespace Go.Proofs.YtipbefckimdkkaaGreat
open Go Go.Proofs Go.Proofs.YtipbefckimdkkaaGreat.E
set_option linter.unusedSimpArgs false
set_option linter.unusedVariables false
theorem read_listP {n : Nat} {vs : List V} (h : Typed Tryz.prog n T.parts vs) : ∃ ps : List Part, vs = [pl ps] ∧ ps.length ≤ maxLen ∧ ∀ p ∈ ps, p.Ok maxLen := by
  have h0 := h
  obtain ⟨l, rfl, _⟩ := E.typed_sl (e := T.part) (by kernel_rfl) h
  obtain ⟨ps, rfl, h1, h2⟩ := read_parts ⟨n, h0⟩
  exact ⟨ps, rfl, h1, h2⟩
theorem read_four {l : List V} (h : ∃ n, Typed Tryz.prog n T.four l) : ∃ a b c d : List Part, l = [pl a, pl b, pl c, pl d] ∧ (a.length ≤ maxLen ∧ ∀ p ∈ a, p.Ok maxLen) ∧ (b.length ≤ maxLen ∧ ∀ p ∈ b, p.Ok maxLen) ∧ (c.length ≤ maxLen ∧ ∀ p ∈ c, p.Ok maxLen) ∧ (d.length ≤ maxLen ∧ ∀ p ∈ d, p.Ok maxLen) := by
  obtain ⟨n, h⟩ := h
  obtain ⟨m, _, h⟩ := E.typed_st (l := [T.parts, T.parts, T.parts, T.parts]) (by kernel_rfl) h
  obtain ⟨a, y, rfl, ha, h⟩ := E.all_cons h
  obtain ⟨b, z, rfl, hb, h⟩ := E.all_cons h
  obtain ⟨c, w, rfl, hc, h⟩ := E.all_cons h
  obtain ⟨d, u, rfl, hd, h⟩ := E.all_cons h
  have := E.all_nil h
  subst this
  obtain ⟨a, rfl, a1, a2⟩ := read_listP ha
  obtain ⟨b, rfl, b1, b2⟩ := read_listP hb
  obtain ⟨c, rfl, c1, c2⟩ := read_listP hc
  obtain ⟨d, rfl, d1, d2⟩ := read_listP hd
  exact ⟨a, b, c, d, rfl, ⟨a1, a2⟩, ⟨b1, b2⟩, ⟨c1, c2⟩, ⟨d1, d2⟩⟩
theorem read_rat {l : List V} (h : ∃ n, Typed Tryz.prog n T.ratio l) : ∃ x : Raw, l = x.c ∧ x.Ok maxLen := by
  obtain ⟨n, h⟩ := h; exact read_raw h
theorem cmpR_lez {a b : Rat} : cmpR a b ≤ 0 ↔ a ≤ b := cmpR_le
end Go.Proofs.YtipbefckimdkkaaGreat
