import Derived.Test.YtkockkfmjmheeaaGreatGN
import Derived.Test.YtkockkfmjmheeaaGreatGL
import Derived.Test.YtkockkfmjmheeaaGreatGC
import Derived.Test.YtkockkfmjmheeaaGreatProg
import Derived.KernelRfl
import Derived.Test.YtkockkfmjmheeaaGreatGE
namespace Go.Proofs.YtkockkfmjmheeaaGreat
open Go Go.Proofs Go.Proofs.YtkockkfmjmheeaaGreat.E
set_option linter.unusedSimpArgs false
set_option linter.unusedVariables false
structure Part where
 v : Tr
 w : Raw
def E.Raw.c (x : Raw) : List V := [.bool x.neg, nat x.num, nat x.den]
theorem raw_v (x : Raw) : x.v = .agg x.c := rfl
@[simp] theorem rawc_length (x : Raw) : x.c.length = 3 := rfl
@[simp] theorem rch_rawc (σ : Sto) (n : Nat) (x : Raw) : x.c.flatMap (rch σ n) = [] := by simp [Raw.c]
theorem toD_rawc (σ : Sto) (n : Nat) (x : Raw) : mapO (toD σ (n + 1)) x.c = some x.c := by simp [Raw.c]
theorem rawc_within {p : Nat → Bool} (x : Raw) : ∀ y ∈ x.c, y.within p = true := by
 intro y hy; simp [Raw.c] at hy; rcases hy with rfl | rfl | rfl <;> simp
def partC (p : Part) : List V := p.v.cells ++ p.w.c
@[simp] theorem rawc_take3 (x : Raw) : x.c.take 3 = x.c := rfl
@[simp] theorem rawc_drop3 (x : Raw) : x.c.drop 3 = [] := rfl
abbrev pl (l : List Part) : V := .dat (l.map partC)
structure Part.Ok (p : Part) (k : Nat) : Prop where
 v : p.v.Ok
 w : p.w.Ok k
def sumQ (l : List Part) : Rat := l.foldl (fun s p => s + p.w.q) 0
theorem sgnR_pos_iff {a : Rat} : sgnR a ≤ 0 ↔ ¬ 0 < a := by
 unfold sgnR; rw [cmpR_le]; grind
structure Pr where
 A : Int
 B : Int
 w : Raw
def prC (p : Pr) : List V := .int .i64 p.A :: .int .i64 p.B :: p.w.c
@[simp] theorem prC_length (p : Pr) : (prC p).length = 5 := rfl
@[simp] theorem prC_take5 (p : Pr) : (prC p).take 5 = prC p := rfl
@[simp] theorem prC_drop2 (p : Pr) : (prC p).drop 2 = p.w.c := rfl
@[simp] theorem prC_0 (p : Pr) : (prC p)[0]? = some (.int .i64 p.A) := rfl
@[simp] theorem prC_1 (p : Pr) : (prC p)[1]? = some (.int .i64 p.B) := rfl
def sumS (f : Pr → Int) (ps : List Pr) (i : Int) : Rat := ps.foldl (fun s p => if f p = i then s + p.w.q else s) 0
def wq (l : List Part) (i : Nat) : Rat := match l[i]? with | some p => p.w.q | none => 0
def left (l : List Part) (f : Pr → Int) (ps : List Pr) (i : Nat) : Rat := wq l i - sumS f ps i
def Pr.Ok (p : Pr) (k : Nat) : Prop := p.w.Ok k
end Go.Proofs.YtkockkfmjmheeaaGreat
