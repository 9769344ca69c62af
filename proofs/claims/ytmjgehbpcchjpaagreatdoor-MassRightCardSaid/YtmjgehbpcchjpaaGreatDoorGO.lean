import Derived.Test.YtmjgehbpcchjpaaGreatDoorGN
import Derived.Test.YtmjgehbpcchjpaaGreatDoorGL
import Derived.Test.YtmjgehbpcchjpaaGreatDoorGC
import Derived.Test.YtmjgehbpcchjpaaGreatDoorProg
import Derived.KernelRfl
namespace Go.Proofs.YtmjgehbpcchjpaaGreatDoor
open Go Go.Proofs Go.Proofs.YtmjgehbpcchjpaaGreatDoor.E
set_option linter.unusedSimpArgs false
set_option linter.unusedVariables false
structure Part where
 v : Tr
 w : Raw
def E.Raw.c (x : Raw) : List V := [.bool x.neg, nat x.num, nat x.den]
theorem dZ (x : Raw) : x.v = .agg x.c := rfl
@[simp] theorem rawc_length (x : Raw) : x.c.length = 3 := rfl
@[simp] theorem rch_rawc (σ : Sto) (n : Nat) (x : Raw) : x.c.flatMap (rch σ n) = [] := by simp [Raw.c]
theorem bJ (σ : Sto) (n : Nat) (x : Raw) : bt (toD σ (n + 1)) x.c = some x.c := by simp [Raw.c]
theorem co {p : Nat → Bool} (x : Raw) : ∀ y ∈ x.c, y.within p = true := by
 intro y hy; simp [Raw.c] at hy; rcases hy with rfl | rfl | rfl <;> simp
def aI (p : Part) : List V := p.v.cells ++ p.w.c
@[simp] theorem partC_length (p : Part) : (aI p).length = 6 := by simp [aI]
@[simp] theorem partC_take6 (p : Part) : (aI p).take 6 = aI p := List.take_of_length_le (by simp)
@[simp] theorem partC_drop6 (p : Part) : (aI p).drop 6 = [] := List.drop_eq_nil_of_le (by simp)
@[simp] theorem partC_take3 (p : Part) : (aI p).take 3 = p.v.cells := by simp [aI, List.take_append]
@[simp] theorem partC_drop3 (p : Part) : (aI p).drop 3 = p.w.c := by simp [aI, List.drop_append]
@[simp] theorem rawc_take3 (x : Raw) : x.c.take 3 = x.c := rfl
@[simp] theorem rawc_drop3 (x : Raw) : x.c.drop 3 = [] := rfl
abbrev pl (l : List Part) : V := .dat (l.map aI)
structure Part.Ok (p : Part) (k : Nat) : Prop where
 v : p.v.Ok
 w : p.w.Ok k
def sumQ (l : List Part) : Rat := l.foldl (fun s p => s + p.w.q) 0
def dS (l : List Part) (i : Nat) : Bool :=
 match l[i]? with
 | some p => gk p.v && p.w.right && decide (0 < p.w.q) && (decide (i = 0) || (match l[i - 1]? with | some q => decide (bx q.v p.v < 0) | none => false))
 | none => true
theorem gY {a : Rat} : cH a ≤ 0 ↔ ¬ 0 < a := by
 unfold cH; rw [cmpR_le]; grind
theorem gE {l : List Part} {i : Nat} (h : i < l.length) : dS l i = (gk l[i].v && l[i].w.right && decide (0 < l[i].w.q) && (decide (i = 0) || (if h0 : 0 < i then decide (bx (l[i - 1]'(by omega)).v l[i].v < 0) else false))) := by
 unfold dS
 rw [List.getElem?_eq_getElem h]
 simp only
 by_cases h0 : i = 0
 ·simp [h0]
 ·rw [List.getElem?_eq_getElem (show i - 1 < l.length by omega), dif_pos (by omega)]
structure Pr where
 A : Int
 B : Int
 w : Raw
def prC (p : Pr) : List V := .int .i64 p.A :: .int .i64 p.B :: p.w.c
@[simp] theorem prC_length (p : Pr) : (prC p).length = 5 := rfl
@[simp] theorem prC_take5 (p : Pr) : (prC p).take 5 = prC p := rfl
@[simp] theorem prC_drop2 (p : Pr) : (prC p).drop 2 = p.w.c := rfl
@[simp] theorem prC_0 (p : Pr) : (prC p)[0]? = some (.int .i64 p.A) := rfl
@[simp] theorem prC_1 (p : Pr) : (prC p)[1]? = some (.int .i64 p.B) := rfl
def sumS (f : Pr → Int) (ps : List Pr) (i : Int) : Rat := ps.foldl (fun s p => if f p = i then s + p.w.q else s) 0
def wq (l : List Part) (i : Nat) : Rat := match l[i]? with | some p => p.w.q | none => 0
def left (l : List Part) (f : Pr → Int) (ps : List Pr) (i : Nat) : Rat := wq l i - sumS f ps i
def Pr.Ok (p : Pr) (k : Nat) : Prop := p.w.Ok k
end Go.Proofs.YtmjgehbpcchjpaaGreatDoor
