import Derived.Test.YtkockkfmjmheeaaGreatGM
import Derived.Test.YtkockkfmjmheeaaGreatGG
namespace Go.Proofs.YtkockkfmjmheeaaGreat
open Go Go.Proofs Go.Proofs.YtkockkfmjmheeaaGreat.E
set_option linter.unusedSimpArgs false
set_option linter.unusedVariables false
theorem toD_out {σ : Sto} {o n es : Nat} {k : Int} {l : List (List V)} (h : n ≠ 0 → E.look σ o = some ⟨.own, es, l⟩) (he : es ≠ 0) (hl : l.length = n) (hd : ∀ r ∈ l, mapO (toD σ 9) r = some r) : toD σ 11 (.agg [.int .i64 k, grown o n]) = some (.agg [.int .i64 k, .dat l]) := by
 simp
 rw [toD_grown (k := 9) h (by simp) he hl hd]
end Go.Proofs.YtkockkfmjmheeaaGreat
