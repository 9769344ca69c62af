import Derived.Test.YtkockkfmjmheeaaGreatGO
namespace Go.Proofs.YtkockkfmjmheeaaGreat
open Go Go.Proofs Go.Proofs.YtkockkfmjmheeaaGreat.E
set_option linter.unusedSimpArgs false
set_option linter.unusedVariables false
theorem E.toD_ref {σ : Sto} {o n k es : Nat} {st : St} {l : List (List V)} (h : E.look σ o = some ⟨st, es, l⟩) (hs : st ≠ .dead) (he : es ≠ 0) (hl : l.length = n) (h0 : n ≠ 0) (hd : ∀ r ∈ l, mapO (toD σ k) r = some r) : toD σ (k + 1) (.ref o 0 n) = some (.dat l) := by
 rw [← grown_pos h0]; exact toD_grown (fun _ => h) hs he hl hd
end Go.Proofs.YtkockkfmjmheeaaGreat
