import Derived.Test.YtipbefckimdkkaaGreatGP
import Derived.Test.YtipbefckimdkkaaGreatGG
import Derived.Test.YtipbefckimdkkaaGreatGD
namespace Go.Proofs.YtipbefckimdkkaaGreat
open Go Go.Proofs Go.Proofs.YtipbefckimdkkaaGreat.E
set_option linter.unusedSimpArgs false
set_option linter.unusedVariables false
def Rise (l : List Part) : Prop := ∀ i j (hi : i < l.length) (hj : j < l.length), i < j → cmpT l[i].v l[j].v < 0
theorem rise_of {l : List Part} (h : rightP l = true) : Rise l := by
 have h1 : ∀ i (hi : i + 1 < l.length), cmpT (l[i]'(by omega)).v l[i + 1].v < 0 := by
  intro i hi
  simp [rightP] at h
  have := h.1.2 (i + 1) hi
  rw [partAt_eq hi] at this
  simp at this
  exact this.2
 intro i j hi hj hij
 induction j with
 | zero => omega
 | succ j ih =>
   by_cases e : i = j
   ·subst e; exact h1 i hj
   ·exact cmpT_trans (ih (by omega) (by omega)) (h1 j hj)
theorem toD_partC (σ : Sto) (n : Nat) (p : Part) : mapO (toD σ (n + 1)) (partC p) = some (partC p) := by
 cases p with
 | mk v w => cases v; simp [partC, cells_mk, Raw.c]
def sumBy {α : Type} (f : α → Rat) (l : List α) : Rat := l.foldl (fun s p => s + f p) 0
section
variable {α β : Type} {f g : α → Rat}
theorem sumBy_nil : sumBy f [] = 0 := rfl
theorem sumBy_snoc (l : List α) (p : α) : sumBy f (l ++ [p]) = sumBy f l + f p := by simp [sumBy, List.foldl_append]
theorem sumBy_take {l : List α} {i : Nat} (h : i < l.length) : sumBy f (l.take (i + 1)) = sumBy f (l.take i) + f l[i] := by
 rw [List.take_succ_eq_append_getElem h, sumBy_snoc]
theorem sumBy_init (l : List α) (s : Rat) : l.foldl (fun s p => s + f p) s = s + sumBy f l := by
 unfold sumBy
 induction l generalizing s with
 | nil => simp [Rat.add_zero]
 | cons a l ih => simp only [List.foldl_cons]; rw [ih, ih (0 + f a), Rat.zero_add, Rat.add_assoc]
theorem sumBy_cons (p : α) (l : List α) : sumBy f (p :: l) = f p + sumBy f l := by
 show (p :: l).foldl (fun s p => s + f p) 0 = _
 rw [List.foldl_cons, sumBy_init, Rat.zero_add]
theorem sumBy_append (l m : List α) : sumBy f (l ++ m) = sumBy f l + sumBy f m := by
 show (l ++ m).foldl (fun s p => s + f p) 0 = _
 rw [List.foldl_append, sumBy_init]; rfl
theorem sumBy_map (h : β → α) (l : List β) : sumBy f (l.map h) = sumBy (fun x => f (h x)) l := by
 induction l with
 | nil => rfl
 | cons a l ih => rw [List.map_cons, sumBy_cons, sumBy_cons, ih]
theorem sumBy_congr {l : List α} (h : ∀ x ∈ l, f x = g x) : sumBy f l = sumBy g l := by
 induction l with
 | nil => rfl
 | cons a l ih => rw [sumBy_cons, sumBy_cons, h a (by simp), ih fun x hx => h x (by simp [hx])]
theorem sumBy_add (l : List α) : sumBy (fun x => f x + g x) l = sumBy f l + sumBy g l := by
 induction l with
 | nil => simp [sumBy_nil, Rat.add_zero]
 | cons a l ih => rw [sumBy_cons, sumBy_cons, sumBy_cons, ih]; grind
theorem sumBy_mul (c : Rat) (l : List α) : sumBy (fun x => c * f x) l = c * sumBy f l := by
 induction l with
 | nil => simp [sumBy_nil]
 | cons a l ih => rw [sumBy_cons, sumBy_cons, ih]; grind
theorem sumBy_zero (l : List α) : sumBy (fun _ => 0) l = 0 := by
 induction l with
 | nil => rfl
 | cons a l ih => rw [sumBy_cons, ih, Rat.add_zero]
theorem sumBy_le {l : List α} (h : ∀ x ∈ l, f x ≤ g x) : sumBy f l ≤ sumBy g l := by
 induction l with
 | nil => rw [sumBy_nil, sumBy_nil]; grind
 | cons a l ih =>
   rw [sumBy_cons, sumBy_cons]
   have h1 := h a (by simp)
   have h2 := ih fun x hx => h x (by simp [hx])
   grind
theorem sumBy_swap {h : α → β → Rat} (l : List α) (m : List β) : sumBy (fun x => sumBy (fun y => h x y) m) l = sumBy (fun y => sumBy (fun x => h x y) l) m := by
 induction l with
 | nil => simp only [sumBy_nil]; rw [sumBy_zero]
 | cons a l ih =>
   rw [sumBy_cons, ih, ← sumBy_add]
   exact sumBy_congr fun y _ => (sumBy_cons (f := fun x => h x y) a l).symm
theorem sumBy_fits {k : Nat} (l : List α) (h : ∀ x ∈ l, Fits (f x) k) : Fits (sumBy f l) (1 + l.length * (k + 1)) := by
 suffices h2 : ∀ n, n ≤ l.length → Fits (sumBy f (l.take n)) (1 + n * (k + 1)) by
  have := h2 l.length (Nat.le_refl _); rwa [List.take_length] at this
 intro n
 induction n with
 | zero => intro _; simpa [sumBy] using fits_zero
 | succ n ih =>
   intro hn
   rw [sumBy_take (by omega)]
   refine (fits_add (ih (by omega)) (h _ (List.getElem_mem (by omega)))).mono ?_
   rw [Nat.succ_mul]; omega
end
theorem sumQ_by (l : List Part) : sumQ l = sumBy (fun p => p.w.q) l := rfl
def Norm (l : List Part) : Prop := ∀ p ∈ l, p.w = rawOf p.w.q
structure Good (l : List Part) : Prop where
 ok : ∀ p ∈ l, p.Ok 1000000
 le : l.length ≤ 60
 ne : l ≠ []
 norm : Norm l
 pos : ∀ p ∈ l, 0 < p.w.q
 rise : Rise l
 one : sumQ l = 1
theorem good_of {l : List Part} (h : rightP l = true) (ho : ∀ p ∈ l, p.Ok 1000000) : Good l := by
 have hr := rise_of h
 have h0 := h
 simp [rightP] at h
 have hat : ∀ i (hi : i < l.length), l[i].w.right = true ∧ 0 < l[i].w.q := by
  intro i hi
  have := h.1.2 i hi
  rw [partAt_eq hi] at this
  simp at this
  exact ⟨this.1.1.2, this.1.2⟩
 refine ⟨ho, h.1.1, ?_, ?_, ?_, hr, h.2⟩
 ·rintro rfl; simp [rightP, sumQ] at h0
 ·intro p hp
  obtain ⟨i, hi, rfl⟩ := List.getElem_of_mem hp
  exact (Raw.right_iff (ho _ (List.getElem_mem hi)).w).1 (hat i hi).1
 ·intro p hp
  obtain ⟨i, hi, rfl⟩ := List.getElem_of_mem hp
  exact (hat i hi).2
theorem Good.nn {l : List Part} (h : Good l) {p : Part} (hp : p ∈ l) : p.w.neg = false := by
 rw [h.norm p hp]
 show decide (p.w.q < 0) = false
 have := h.pos p hp
 exact decide_eq_false (by grind)
def fAt (f : Part → Rat) (l : List Part) (v : Tr) : Rat := match l.find? (fun p => decide (cmpT p.v v = 0)) with
 | some p => f p
 | none => 0
theorem fAt_cons (f : Part → Rat) (p : Part) (l : List Part) (v : Tr) : fAt f (p :: l) v = if p.v = v then f p else fAt f l v := by
 unfold fAt
 rw [List.find?_cons]
 by_cases h : p.v = v
 ·simp [h, cmpT_self]
 ·simp [h, cmpT_zero]
theorem fAt_none {f : Part → Rat} {l : List Part} {v : Tr} (h : ∀ p ∈ l, p.v ≠ v) : fAt f l v = 0 := by
 induction l with
 | nil => rfl
 | cons p l ih => rw [fAt_cons, if_neg (h p (by simp)), ih fun q hq => h q (by simp [hq])]
def Dist (l : List Part) : Prop := (l.map (·.v)).Nodup
theorem dist_of {l : List Part} (h : Rise l) : Dist l := by
 unfold Dist List.Nodup
 rw [List.pairwise_map, List.pairwise_iff_getElem]
 intro i j hi hj hij e
 have := h i j hi hj hij
 rw [e, cmpT_self] at this
 omega
theorem fAt_mem {f : Part → Rat} {l : List Part} (hd : Dist l) {p : Part} (hp : p ∈ l) : fAt f l p.v = f p := by
 induction l with
 | nil => simp at hp
 | cons a l ih =>
   unfold Dist at hd
   rw [List.map_cons, List.nodup_cons] at hd
   rw [fAt_cons]
   simp only [List.mem_cons] at hp
   rcases hp with rfl | hp
   ·simp
   ·have : ¬ a.v = p.v := fun e => hd.1 (by rw [e]; exact List.mem_map.2 ⟨p, hp, rfl⟩)
    rw [if_neg this]
    exact ih hd.2 hp
theorem sum_one {f : Part → Rat} {l : List Part} (hd : Dist l) (v : Tr) : sumBy (fun p => if p.v = v then f p else 0) l = fAt f l v := by
 induction l with
 | nil => rfl
 | cons a l ih =>
   unfold Dist at hd
   rw [List.map_cons, List.nodup_cons] at hd
   rw [sumBy_cons, fAt_cons, ih hd.2]
   by_cases e : a.v = v
   ·have : fAt f l v = 0 := fAt_none fun p hp e2 => hd.1 (by rw [e, ← e2]; exact List.mem_map.2 ⟨p, hp, rfl⟩)
    simp only [e, if_true, this, Rat.add_zero]
   ·simp only [e, if_false, Rat.zero_add]
end Go.Proofs.YtipbefckimdkkaaGreat
