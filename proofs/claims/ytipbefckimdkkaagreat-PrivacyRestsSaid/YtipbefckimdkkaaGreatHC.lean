/- Joined texts: CPri2, CPri3, CPri4. -/
import Derived.Test.YtipbefckimdkkaaGreatHA
import Derived.Test.YtipbefckimdkkaaGreatGC
import Derived.Test.YtipbefckimdkkaaGreatProg
import Derived.KernelRfl
/- Functions of the program, as the engine reads them; each is held against the translation. -/
namespace Go.Proofs.YtipbefckimdkkaaGreat.F
open Go Go.Proofs Go.Proofs.YtipbefckimdkkaaGreat.E Go.Proofs.YtipbefckimdkkaaGreat.Q
abbrev ref36_rated : Nat := 80
def ref36_rated_c : MFn :=
  ⟨11,(.seq (r [o 1 (.box (.t 0)),o 2 (.mv (.c (.bool false)))] [1]) (.seq (r [o 3 (.ld (some 3) (.t 1)),o 4 (.callF 49 [(.t 3)]),o 5 (.mv (.t 4)),y 6 5 (.ld (some 3) (.t 1)),y 7 5 (.callF 42 []),
  y 8 5 (.callF 16 [(.t 6),(.t 7)]),y 9 5 (.bin .geq (.t 8) (i 0)),o 10 (.pick (.t 5) (.t 9) (.c (.bool false))),o 2 (.mv (.t 10))] [2]) .ret)),[.t 2]⟩
theorem ref36_rated_ok : cFn Tryz.prog (kps [[1],[2]]) [] 80 = some ref36_rated_c := by kernel_rfl
end Go.Proofs.YtipbefckimdkkaaGreat.F

namespace Go.Proofs.YtipbefckimdkkaaGreat
open Go Go.Proofs Go.Proofs.YtipbefckimdkkaaGreat.E
set_option linter.unusedSimpArgs false
set_option linter.unusedVariables false
structure Cor where
  r : Raw
  s : Raw
def corC (c : Cor) : List V := c.r.c ++ c.s.c
abbrev cl (l : List Cor) : V := .dat (l.map corC)
@[simp] theorem corC_length (c : Cor) : (corC c).length = 6 := by simp [corC]
@[simp] theorem corC_take3 (c : Cor) : (corC c).take 3 = c.r.c := by simp [corC, List.take_append]
@[simp] theorem corC_drop3 (c : Cor) : (corC c).drop 3 = c.s.c := by simp [corC, List.drop_append]
end Go.Proofs.YtipbefckimdkkaaGreat

namespace Go.Proofs.YtipbefckimdkkaaGreat
open Go Go.Proofs Go.Proofs.YtipbefckimdkkaaGreat.E
set_option linter.unusedSimpArgs false
set_option linter.unusedVariables false
theorem same_raw {x : Raw} {k : Nat} (hx : x.Ok k) (h : x.right = true) : x = rawOf x.q := (Raw.right_iff hx).1 h
theorem one_of_rated {x : Raw} (h : ratedB x = true) : 1 ≤ x.q := by simp only [ratedB, Bool.and_eq_true, decide_eq_true_eq] at h; exact h.2
end Go.Proofs.YtipbefckimdkkaaGreat

namespace Go.Proofs.YtipbefckimdkkaaGreat
open Go Go.Proofs Go.Proofs.YtipbefckimdkkaaGreat.E
set_option linter.unusedSimpArgs false
set_option linter.unusedVariables false
theorem ref36_rated {x : Raw} (hx : x.Ok (2 ^ 31)) : CallD Tryz.prog F.ref36_rated [x.v] (· = .bool (ratedB x)) := by
  have hx33 : x.Ok (2 ^ 33) := hx.mono (by omega)
  refine callD_by F.ref36_rated_ok ?_
  unfold F.ref36_rated_c ratedB
  simp [setOb, List.filter_cons, raw_v]
  refine callFK_of (ref02_Right hx33) (by simp [toD_rawc, raw_v]) ?_
  cases hr : x.right with
  | false => simp
  | true =>
  simp
  refine callFK_of ref02_One (by simp) ?_
  simp [ratV, raw_v]
  refine callFK_of (ref02_Compare hx one_ok) (by simp [toD_rawc, raw_v]) ?_
  rw [rawOf_q]
  simp [cmpR_nn]
end Go.Proofs.YtipbefckimdkkaaGreat
