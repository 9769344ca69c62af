import Derived.Test.YtmjgehbpcchjpaaGreatDoorGN
import Derived.Test.YtmjgehbpcchjpaaGreatDoorGL
import Derived.Test.YtmjgehbpcchjpaaGreatDoorGC
import Derived.Test.YtmjgehbpcchjpaaGreatDoorProg
import Derived.KernelRfl
namespace Go.Proofs.YtmjgehbpcchjpaaGreatDoor
open Go Go.Proofs Go.Proofs.YtmjgehbpcchjpaaGreatDoor.E
set_option linter.unusedSimpArgs false
set_option linter.unusedVariables false
structure Part where
 v : Tr
 w : Raw
def E.Raw.c (x : Raw) : List V := [.bool x.neg, nat x.num, nat x.den]
theorem bW (x : Raw) : x.v = .agg x.c := rfl
@[simp] theorem rawc_length (x : Raw) : x.c.length = 3 := rfl
@[simp] theorem rch_rawc (σ : Sto) (n : Nat) (x : Raw) : x.c.flatMap (rch σ n) = [] := by simp [Raw.c]
theorem bq (σ : Sto) (n : Nat) (x : Raw) : bo (toD σ (n + 1)) x.c = some x.c := by simp [Raw.c]
theorem bx {p : Nat → Bool} (x : Raw) : ∀ y ∈ x.c, y.within p = true := by
 intro y hy; simp [Raw.c] at hy; rcases hy with rfl | rfl | rfl <;> simp
def aA (p : Part) : List V := p.v.cells ++ p.w.c
@[simp] theorem partC_length (p : Part) : (aA p).length = 6 := by simp [aA]
@[simp] theorem partC_take6 (p : Part) : (aA p).take 6 = aA p := List.take_of_length_le (by simp)
@[simp] theorem partC_drop6 (p : Part) : (aA p).drop 6 = [] := List.drop_eq_nil_of_le (by simp)
@[simp] theorem partC_take3 (p : Part) : (aA p).take 3 = p.v.cells := by simp [aA, List.take_append]
@[simp] theorem partC_drop3 (p : Part) : (aA p).drop 3 = p.w.c := by simp [aA, List.drop_append]
@[simp] theorem rawc_take3 (x : Raw) : x.c.take 3 = x.c := rfl
@[simp] theorem rawc_drop3 (x : Raw) : x.c.drop 3 = [] := rfl
abbrev pl (l : List Part) : V := .dat (l.map aA)
structure Part.Ok (p : Part) (k : Nat) : Prop where
 v : p.v.Ok
 w : p.w.Ok k
def sumQ (l : List Part) : Rat := l.foldl (fun s p => s + p.w.q) 0
theorem E.doneX_new {rs : List MRes} {e : Ex} {S : Sl} {σ' : Sto} {l : List V} {o n es : Nat} {rows : List (List V)} (he : ∀ n, e ≠ .exit n) (h1 : iT S σ' rs = some l) (h2 : eJ l = bl o n) (h3 : n ≠ 0 → E.look σ' o = some ⟨.own, es, rows⟩) (hr : ∀ r ∈ rows, ∀ y ∈ r, ∀ p : Nat → Bool, y.within p = true) :
 DoneX [] rs (fun v s => ∃ o, v = bl o n ∧ s = cL o es n rows) e S σ' := by
 refine ⟨he, l, cL o es n rows, h1, ⟨fun p x hp => ?_, fun p hp => by simp at hp, ?_, fun p x hp hx r hr' y hy => ?_⟩, o, h2, rfl⟩
 ·by_cases h0 : n = 0
  ·subst h0; simp [aP, E.look] at hp
  ·rw [ay h0] at hp; simp only [E.look] at hp
   split at hp
   ·rename_i e; subst e; injection hp with hp; subst hp; exact h3 h0
   ·simp at hp
 ·rw [h2]
  by_cases h0 : n = 0
  ·subst h0; simp [aF]
  ·rw [ax h0, ay h0]; simp [V.within, E.look]
 ·by_cases h0 : n = 0
  ·subst h0; simp [aP, E.look] at hp
  ·rw [ay h0] at hp; simp only [E.look] at hp
   split at hp
   ·injection hp with hp; subst hp; exact hr r hr' y hy _
   ·simp at hp
structure Pr where
 A : Int
 B : Int
 w : Raw
def prC (p : Pr) : List V := .int .i64 p.A :: .int .i64 p.B :: p.w.c
@[simp] theorem prC_length (p : Pr) : (prC p).length = 5 := rfl
@[simp] theorem prC_take5 (p : Pr) : (prC p).take 5 = prC p := rfl
@[simp] theorem prC_drop2 (p : Pr) : (prC p).drop 2 = p.w.c := rfl
@[simp] theorem prC_0 (p : Pr) : (prC p)[0]? = some (.int .i64 p.A) := rfl
@[simp] theorem prC_1 (p : Pr) : (prC p)[1]? = some (.int .i64 p.B) := rfl
def sumS (f : Pr → Int) (ps : List Pr) (i : Int) : Rat := ps.foldl (fun s p => if f p = i then s + p.w.q else s) 0
def wq (l : List Part) (i : Nat) : Rat := match l[i]? with | some p => p.w.q | none => 0
def left (l : List Part) (f : Pr → Int) (ps : List Pr) (i : Nat) : Rat := wq l i - sumS f ps i
def Pr.Ok (p : Pr) (k : Nat) : Prop := p.w.Ok k
end Go.Proofs.YtmjgehbpcchjpaaGreatDoor
