/- Joined texts: CPri6, CPri7. -/
import Derived.Test.YtipbefckimdkkaaGreatHD
import Derived.Test.YtipbefckimdkkaaGreatHC
/- Functions of the program, as the engine reads them; each is held against the translation. -/
namespace Go.Proofs.YtipbefckimdkkaaGreat.F
open Go Go.Proofs Go.Proofs.YtipbefckimdkkaaGreat.E Go.Proofs.YtipbefckimdkkaaGreat.Q
abbrev ref36_right : Nat := 63
def ref36_right_c : MFn :=
  ⟨11,(.seq (r [o 4 (.mv (.c (.bool false)))] [0,1]) (.seq (r [o 5 (.mv (.t 0)),o 6 (.call 36 [(.t 5)]),o 7 (.mv (.t 6)),y 8 7 (.mv (.t 1)),y 9 7 (.call 36 [(.t 8)]),o 10 (.pick (.t 7) (.t 9)
  (.c (.bool false))),o 4 (.mv (.t 10))] [4]) .ret)),[.t 4]⟩
theorem ref36_right_ok : cFn Tryz.prog (kps [[0,1],[4]]) [] 63 = some ref36_right_c := by kernel_rfl
end Go.Proofs.YtipbefckimdkkaaGreat.F

namespace Go.Proofs.YtipbefckimdkkaaGreat
open Go Go.Proofs Go.Proofs.YtipbefckimdkkaaGreat.E
set_option linter.unusedSimpArgs false
set_option linter.unusedVariables false
theorem ref36_right {a b : List Part} (la : a.length ≤ 1000) (lb : b.length ≤ 1000) (oa : ∀ p ∈ a, p.Ok 1000000) (ob : ∀ p ∈ b, p.Ok 1000000) : CallD Tryz.prog F.ref36_right [pl a, pl b] (· = .bool (rightP a && rightP b)) := by
  refine callD_by F.ref36_right_ok ?_
  unfold F.ref36_right_c
  simp
  refine callK_of (ref35_Right (by omega) oa) (by simp) ?_
  cases hra : rightP a with
  | false => simp
  | true =>
  simp
  refine callK_of (ref35_Right (by omega) ob) (by simp) ?_
  simp
end Go.Proofs.YtipbefckimdkkaaGreat

namespace Go.Proofs.YtipbefckimdkkaaGreat
open Go Go.Proofs Go.Proofs.YtipbefckimdkkaaGreat.E
set_option linter.unusedSimpArgs false
set_option linter.unusedVariables false
end Go.Proofs.YtipbefckimdkkaaGreat
