import Derived.Test.YtipbefckimdkkaaGreatHE
import Derived.Test.YtipbefckimdkkaaGreatGC
import Derived.Test.YtipbefckimdkkaaGreatProg
import Derived.KernelRfl
import Derived.Test.YtipbefckimdkkaaGreatGD
import Derived.Test.YtipbefckimdkkaaGreatGW
namespace Go.Proofs.YtipbefckimdkkaaGreat
open Go Go.Proofs Go.Proofs.YtipbefckimdkkaaGreat.E
set_option linter.unusedSimpArgs false
set_option linter.unusedVariables false
def jnt (p q : Part) : Part := ⟨.mk 3 0 [p.v, q.v], rawOf (p.w.q * q.w.q)⟩
theorem rch_flat {σ : Sto} {o n k es : Nat} {st : St} {l : List (List V)} (h : getOb σ o = some ⟨st, es, l⟩) (hl : l.length = n) (hr : ∀ r ∈ l, r.flatMap (rch σ k) = []) : rch σ (k + 1) (.ref o 0 n) = [o] := by
 show (match getOb σ o with | some x => o :: ((x.cells.drop 0).take n).flatMap (fun r => r.flatMap (rch σ k)) | none => []) = [o]
 rw [h]
 have e : List.flatMap (fun r => List.flatMap (rch σ k) r) ((List.drop 0 l).take n) = [] := by
  rw [List.flatMap_eq_nil_iff]
  intro r h1
  rw [List.drop_zero, List.take_of_length_le (by omega)] at h1
  exact hr r h1
 show o :: List.flatMap (fun r => List.flatMap (rch σ k) r) ((List.drop 0 l).take n) = [o]
 rw [e]
def jRow (e : Nat × Part × Part) : List V := [.int .i64 3, .int .i64 0, .ref e.1 0 2] ++ (rawOf (e.2.1.w.q * e.2.2.w.q)).c
def jObj (e : Nat × Part × Part) : Ob := ⟨.own, 3, [e.2.1.v.cells, e.2.2.v.cells]⟩
structure Nst (σ : Sto) (q : Nat) (J : List (Nat × Part × Part)) : Prop where
 out : J ≠ [] → E.look σ q = some ⟨.own, 6, J.map jRow⟩
 each : ∀ e ∈ J, E.look σ e.1 = some (jObj e)
def jParts (J : List (Nat × Part × Part)) : List Part := J.map fun e => jnt e.2.1 e.2.2
theorem partC_jnt (p q : Part) : partC (jnt p q) = [.int .i64 3, .int .i64 0, .dat [p.v.cells, q.v.cells]] ++ (rawOf (p.w.q * q.w.q)).c := by
 unfold partC jnt; rw [cells_mk]; rfl
theorem jRow_toD {σ : Sto} {e : Nat × Part × Part} (h : E.look σ e.1 = some (jObj e)) (n : Nat) : mapO (toD σ (n + 3)) (jRow e) = some (partC (jnt e.2.1 e.2.2)) := by
 have hr : toD σ (n + 3) (.ref e.1 0 2) = some (.dat [e.2.1.v.cells, e.2.2.v.cells]) :=
  E.toD_ref (k := n + 2) (st := .own) (es := 3) h (by simp) (by simp) (by simp) (by simp) (fun r hr => by simp at hr; rcases hr with rfl | rfl <;> exact toD_cells _ _ _)
 rw [partC_jnt]
 unfold jRow
 simp only [List.cons_append, List.nil_append, mapO]
 rw [hr, toD_rawc]
 rfl
theorem Nst.data {σ : Sto} {q : Nat} {J : List (Nat × Part × Part)} (h : Nst σ q J) : toD σ 11 (grown q J.length) = some (pl (jParts J)) := by
 by_cases h0 : J = []
 ·subst h0; rfl
 ·have hn : J.length ≠ 0 := fun e => h0 (List.length_eq_zero_iff.1 e)
  rw [grown_pos hn]
  refine E.toD_refM (k := 10) (st := .own) (es := 6) (h.out h0) (by simp) (by simp) (by simp) ?_
  rw [jParts, List.map_map]
  clear hn h0
  have key : ∀ (G : List (Nat × Part × Part)), (∀ e ∈ G, E.look σ e.1 = some (jObj e)) → mapO (mapO (toD σ 10)) (G.map jRow) = some (G.map fun e => partC (jnt e.2.1 e.2.2)) := by
   intro G hG
   induction G with
   | nil => rfl
   | cons e G ih =>
     simp only [List.map_cons, mapO]
     rw [jRow_toD (n := 7) (hG e (by simp)), ih fun e he => hG e (by simp [he])]
  exact key J h.each
theorem Nst.add {σ τ : Sto} {q q' : Nat} {J : List (Nat × Part × Part)} {e : Nat × Part × Part} (h : Nst σ q J) (h1 : E.look τ q' = some ⟨.own, 6, J.map jRow ++ [jRow e]⟩) (h2 : E.look τ e.1 = some (jObj e)) (h3 : ∀ d ∈ J, E.look τ d.1 = E.look σ d.1) : Nst τ q' (J ++ [e]) := by
 refine ⟨fun _ => by rw [h1]; simp, fun d hd => ?_⟩
 rcases List.mem_append.1 hd with hd | hd
 ·rw [h3 d hd]; exact h.each d hd
 ·simp at hd; subst hd; exact h2
theorem fresh_setOb (σ : Sto) (o : Nat) (x : Ob) : fresh (setOb σ o x) = max (o + 1) (fresh σ) := by
 have := fresh_filter σ o
 simp only [setOb, fresh]
 exact this
theorem Nst.lt {σ : Sto} {q : Nat} {J : List (Nat × Part × Part)} (h : Nst σ q J) : (∀ e ∈ J, e.1 < fresh σ) ∧ (J ≠ [] → q < fresh σ) :=
 ⟨fun e he => lt_fresh (h.each e he), fun hJ => lt_fresh (h.out hJ)⟩
theorem Nst.new {σ : Sto} {q : Nat} {J : List (Nat × Part × Part)} (h : Nst σ q J) (x : Ob) : Nst (setOb σ (fresh σ) x) q J := by
 obtain ⟨h1, h2⟩ := h.lt
 refine ⟨fun hJ => ?_, fun e he => ?_⟩
 ·rw [look_setOb, if_neg (by have := h2 hJ; omega)]; exact h.out hJ
 ·rw [look_setOb, if_neg (by have := h1 e he; omega)]; exact h.each e he
theorem partC_plain (p : Part) : Plain [partC p] := fun r hr y hy f => by
 simp at hr; subst hr
 simp [partC] at hy
 rcases hy with hy | hy
 ·exact cells_within _ y hy
 ·exact rawc_within _ y hy
end Go.Proofs.YtipbefckimdkkaaGreat
