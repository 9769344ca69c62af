import Derived.Test.YtkockkfmjmheeaaGreatGD
import Derived.Test.YtkockkfmjmheeaaGreatGG
import Derived.Test.YtkockkfmjmheeaaGreatGC
import Derived.Test.YtkockkfmjmheeaaGreatProg
import Derived.KernelRfl
import Derived.Test.YtkockkfmjmheeaaGreatGE
namespace Go.Proofs.YtkockkfmjmheeaaGreat
open Go Go.Proofs Go.Proofs.YtkockkfmjmheeaaGreat.E
set_option linter.unusedSimpArgs false
set_option linter.unusedVariables false
def E.Tr.cells : Tr → List V
 | .mk k n l => [.int .i64 k, .int .i64 n, .dat (l.map fun x => x.cells)]
theorem cells_mk (k n : Int) (l : List Tr) : (Tr.mk k n l).cells = [.int .i64 k, .int .i64 n, .dat (l.map Tr.cells)] := by rw [Tr.cells]
@[simp] theorem cells_length (t : Tr) : t.cells.length = 3 := by cases t; rw [cells_mk]; rfl
@[simp] theorem cells_take (t : Tr) : t.cells.take 3 = t.cells := List.take_of_length_le (by simp)
abbrev tl (l : List Tr) : V := .dat (l.map Tr.cells)
theorem toD_one {σ : Sto} {n : Nat} {v : V} (h : ∀ n, toD σ (n + 1) v = some v) : toD σ (n + 1) v = some v := h n
theorem toD_cells (σ : Sto) (n : Nat) (t : Tr) : mapO (toD σ (n + 1)) t.cells = some t.cells := by
 cases t; rw [cells_mk]; simp
def E.Ty.cells : Ty → List V
 | .mk k l => [.int .i64 k, .dat (l.map fun x => x.cells)]
theorem toD_grown {σ : Sto} {o n k es : Nat} {st : St} {l : List (List V)} (h : n ≠ 0 → E.look σ o = some ⟨st, es, l⟩) (hs : st ≠ .dead) (he : es ≠ 0) (hl : l.length = n) (hd : ∀ r ∈ l, mapO (toD σ k) r = some r) : toD σ (k + 1) (grown o n) = some (.dat l) := by
 by_cases h0 : n = 0
 ·subst h0
  have : l = [] := List.length_eq_zero_iff.1 hl
  subst this
  rfl
 ·rw [grown_pos h0]
  show (match getOb σ o with | some x => if 0 + n ≤ x.cells.length ∧ x.es ≠ 0 then (mapO (mapO (toD σ k)) ((x.cells.drop 0).take n)).map V.dat else none | none => none) = _
  simp only [getOb, h h0, hs, if_false]
  rw [if_pos ⟨by omega, he⟩, List.drop_zero, List.take_of_length_le (by omega), mapO_id hd]
  rfl
end Go.Proofs.YtkockkfmjmheeaaGreat
