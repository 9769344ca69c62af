import Derived.Test.YtmjgehbpcchjpaaGreatDoorGP
import Derived.Test.YtmjgehbpcchjpaaGreatDoorGG
import Derived.Test.YtmjgehbpcchjpaaGreatDoorGD
namespace Go.Proofs.YtmjgehbpcchjpaaGreatDoor
open Go Go.Proofs Go.Proofs.YtmjgehbpcchjpaaGreatDoor.E
set_option linter.unusedSimpArgs false
set_option linter.unusedVariables false
def Rise (l : List Part) : Prop := ∀ i j (hi : i < l.length) (hj : j < l.length), i < j → bJ l[i].v l[j].v < 0
theorem bG (σ : Sto) (n : Nat) (p : Part) : bo (toD σ (n + 1)) (aA p) = some (aA p) := by
 cases p with
 | mk v w => cases v; simp [aA, ct, Raw.c]
def cM {α : Type} (f : α → Rat) (l : List α) : Rat := l.foldl (fun s p => s + f p) 0
section
variable {α β : Type} {f g : α → Rat}
theorem rp (l : List α) (p : α) : cM f (l ++ [p]) = cM f l + f p := by simp [cM, List.foldl_append]
theorem ni {l : List α} {i : Nat} (h : i < l.length) : cM f (l.take (i + 1)) = cM f (l.take i) + f l[i] := by
 rw [List.take_succ_eq_append_getElem h, rp]
theorem nh (l : List α) (s : Rat) : l.foldl (fun s p => s + f p) s = s + cM f l := by
 unfold cM
 induction l generalizing s with
 | nil => simp [Rat.add_zero]
 | cons a l ih => simp only [List.foldl_cons]; rw [ih, ih (0 + f a), Rat.zero_add, Rat.add_assoc]
theorem nb (p : α) (l : List α) : cM f (p :: l) = f p + cM f l := by
 show (p :: l).foldl (fun s p => s + f p) 0 = _
 rw [List.foldl_cons, nh, Rat.zero_add]
theorem ki (l m : List α) : cM f (l ++ m) = cM f l + cM f m := by
 show (l ++ m).foldl (fun s p => s + f p) 0 = _
 rw [List.foldl_append, nh]; rfl
theorem nf {k : Nat} (l : List α) (h : ∀ x ∈ l, Fits (f x) k) : Fits (cM f l) (1 + l.length * (k + 1)) := by
 suffices h2 : ∀ n, n ≤ l.length → Fits (cM f (l.take n)) (1 + n * (k + 1)) by
  have := h2 l.length (Nat.le_refl _); rwa [List.take_length] at this
 intro n
 induction n with
 | zero => intro _; simpa [cM] using fits_zero
 | succ n ih =>
   intro hn
   rw [ni (by omega)]
   refine (mH (ih (by omega)) (h _ (List.getElem_mem (by omega)))).mono ?_
   rw [Nat.succ_mul]; omega
end
def Norm (l : List Part) : Prop := ∀ p ∈ l, p.w = ao p.w.q
structure Good (l : List Part) : Prop where
 ok : ∀ p ∈ l, p.Ok 1000000
 le : l.length ≤ 60
 ne : l ≠ []
 norm : Norm l
 pos : ∀ p ∈ l, 0 < p.w.q
 rise : Rise l
 one : sumQ l = 1
end Go.Proofs.YtmjgehbpcchjpaaGreatDoor
