import Derived.Test.YtmjgehbpcchjpaaGreatDoorGM
import Derived.Test.YtmjgehbpcchjpaaGreatDoorGG
namespace Go.Proofs.YtmjgehbpcchjpaaGreatDoor
open Go Go.Proofs Go.Proofs.YtmjgehbpcchjpaaGreatDoor.E
set_option linter.unusedSimpArgs false
set_option linter.unusedVariables false
theorem pd {σ : Sto} {o n es : Nat} {k : Int} {l : List (List V)} (h : n ≠ 0 → E.look σ o = some ⟨.own, es, l⟩) (he : es ≠ 0) (hl : l.length = n) (hd : ∀ r ∈ l, bo (toD σ 9) r = some r) : toD σ 11 (.agg [.int .i64 k, bl o n]) = some (.agg [.int .i64 k, .dat l]) := by
 simp
 rw [cI (k := 9) h (by simp) he hl hd]
end Go.Proofs.YtmjgehbpcchjpaaGreatDoor
