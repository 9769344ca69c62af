import Derived.Test.YtkockkfmjmheeaaGreatGP
import Derived.Test.YtkockkfmjmheeaaGreatGG
import Derived.Test.YtkockkfmjmheeaaGreatGD
namespace Go.Proofs.YtkockkfmjmheeaaGreat
open Go Go.Proofs Go.Proofs.YtkockkfmjmheeaaGreat.E
set_option linter.unusedSimpArgs false
set_option linter.unusedVariables false
def Rise (l : List Part) : Prop := ∀ i j (hi : i < l.length) (hj : j < l.length), i < j → cmpT l[i].v l[j].v < 0
def sumBy {α : Type} (f : α → Rat) (l : List α) : Rat := l.foldl (fun s p => s + f p) 0
section
variable {α β : Type} {f g : α → Rat}
theorem sumBy_nil : sumBy f [] = 0 := rfl
theorem sumBy_snoc (l : List α) (p : α) : sumBy f (l ++ [p]) = sumBy f l + f p := by simp [sumBy, List.foldl_append]
theorem sumBy_take {l : List α} {i : Nat} (h : i < l.length) : sumBy f (l.take (i + 1)) = sumBy f (l.take i) + f l[i] := by
 rw [List.take_succ_eq_append_getElem h, sumBy_snoc]
theorem sumBy_init (l : List α) (s : Rat) : l.foldl (fun s p => s + f p) s = s + sumBy f l := by
 unfold sumBy
 induction l generalizing s with
 | nil => simp [Rat.add_zero]
 | cons a l ih => simp only [List.foldl_cons]; rw [ih, ih (0 + f a), Rat.zero_add, Rat.add_assoc]
theorem sumBy_cons (p : α) (l : List α) : sumBy f (p :: l) = f p + sumBy f l := by
 show (p :: l).foldl (fun s p => s + f p) 0 = _
 rw [List.foldl_cons, sumBy_init, Rat.zero_add]
theorem sumBy_fits {k : Nat} (l : List α) (h : ∀ x ∈ l, Fits (f x) k) : Fits (sumBy f l) (1 + l.length * (k + 1)) := by
 suffices h2 : ∀ n, n ≤ l.length → Fits (sumBy f (l.take n)) (1 + n * (k + 1)) by
  have := h2 l.length (Nat.le_refl _); rwa [List.take_length] at this
 intro n
 induction n with
 | zero => intro _; simpa [sumBy] using fits_zero
 | succ n ih =>
   intro hn
   rw [sumBy_take (by omega)]
   refine (fits_add (ih (by omega)) (h _ (List.getElem_mem (by omega)))).mono ?_
   rw [Nat.succ_mul]; omega
end
def Norm (l : List Part) : Prop := ∀ p ∈ l, p.w = rawOf p.w.q
structure Good (l : List Part) : Prop where
 ok : ∀ p ∈ l, p.Ok 1000000
 le : l.length ≤ 60
 ne : l ≠ []
 norm : Norm l
 pos : ∀ p ∈ l, 0 < p.w.q
 rise : Rise l
 one : sumQ l = 1
end Go.Proofs.YtkockkfmjmheeaaGreat
