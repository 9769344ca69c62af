import Derived.Test.YtipbefckimdkkaaGreatGS
import Derived.Test.YtipbefckimdkkaaGreatGD
namespace Go.Proofs.YtipbefckimdkkaaGreat
open Go Go.Proofs Go.Proofs.YtipbefckimdkkaaGreat.E
set_option linter.unusedSimpArgs false
set_option linter.unusedVariables false
def rowB (m : Nat) (f : Nat → Bool) : List (List V) := (List.range m).map fun k => [.bool (f k)]
def relV (n m : Nat) (f : Nat → Nat → Bool) : V := .dat ((List.range n).map fun i => [.dat (rowB m (f i))])
@[simp] theorem rowB_len (m : Nat) (f : Nat → Bool) : (rowB m f).length = m := by simp [rowB]
theorem rowB_set {m k : Nat} {f : Nat → Bool} (hk : k < m) : (rowB m f).set k [.bool true] = rowB m (fun j => f j || decide (j = k)) := by
 apply List.ext_getElem
 ·simp
 ·intro i h1 h2
  rw [List.getElem_set]
  by_cases e : k = i
  ·subst e; simp [rowB]
  ·have e' : ¬ i = k := fun h => e h.symm
   simp [rowB, e, e']
theorem rowB_plain (m : Nat) (f : Nat → Bool) : Plain (rowB m f) := by
 intro r hr y hy p
 obtain ⟨k, _, rfl⟩ := List.mem_map.1 hr
 simp at hy; subst hy; simp
theorem rowB_false (m : Nat) : List.replicate m [V.bool false] = rowB m (fun _ => false) := by
 apply List.ext_getElem <;> simp [rowB]
structure Mat (σ : Sto) (q : Nat) (ids : List Nat) (m : Nat) (rest : List (List V)) (f : Nat → Nat → Bool) : Prop where
 outer : E.look σ q = some ⟨.own, 1, (ids.map fun o => [V.ref o 0 m]) ++ rest⟩
 nd : ids.Nodup
 nq : q ∉ ids
 row : ∀ j (h : j < ids.length), E.look σ ids[j] = some ⟨.own, 1, rowB m (f j)⟩
 shut : Shut σ
theorem Mat.add {σ : Sto} {q m : Nat} {ids : List Nat} {k : Nat} (h : Mat σ q ids m (List.replicate (k + 1) [.nils]) fun _ _ => false) :
 Mat (setOb (setOb σ (fresh σ) ⟨.own, 1, List.replicate m [.bool false]⟩) q ⟨.own, 1, (ids.map fun o => [V.ref o 0 m]) ++ (List.replicate (k + 1) [V.nils]).set 0 [.ref (fresh σ) 0 m]⟩) q (ids ++ [fresh σ]) m (List.replicate k [.nils]) fun _ _ => false := by
 have hq := lt_fresh h.outer
 have hids : ∀ o ∈ ids, o < fresh σ := fun o ho => by
  obtain ⟨j, hj, rfl⟩ := List.getElem_of_mem ho
  exact lt_fresh (h.row j hj)
 have e : (ids.map fun o => [V.ref o 0 m]) ++ (List.replicate (k + 1) [V.nils]).set 0 [V.ref (fresh σ) 0 m] = ((ids ++ [fresh σ]).map fun o => [V.ref o 0 m]) ++ List.replicate k [V.nils] := by
  simp [List.replicate_succ]
 rw [e]
 refine ⟨by simp, ?_, ?_, fun j hj => ?_, ?_⟩
 ·rw [List.nodup_append]
  exact ⟨h.nd, by simp, fun a ha b hb => by simp at hb; subst hb; have := hids a ha; omega⟩
 ·simp only [List.mem_append, List.mem_singleton]
  rintro (h1 | h1)
  ·exact h.nq h1
  ·omega
 ·rw [look_setOb, look_setOb]
  by_cases hj2 : j < ids.length
  ·have hg : (ids ++ [fresh σ])[j] = ids[j] := List.getElem_append_left hj2
   have hm := List.getElem_mem hj2
   rw [hg, if_neg (fun e => h.nq (by rw [← e]; exact hm)), if_neg (by have := hids _ hm; omega)]
   exact h.row j hj2
  ·have hjl : j = ids.length := by simp at hj; omega
   subst hjl
   simp only [List.getElem_append_right (Nat.le_refl _), Nat.sub_self, List.getElem_singleton]
   rw [if_neg (by omega)]
   simp [rowB_false]
 ·intro o x ho hx r hr y hy
  rw [look_setOb] at ho
  by_cases e1 : o = q
  ·rw [if_pos e1] at ho; injection ho with ho; subst ho
   simp only [List.mem_append, List.mem_map] at hr
   rcases hr with ⟨a, ha, rfl⟩ | hr
   ·simp at hy; subst hy
    simp only [within_ref, look_setOb]
    split
    ·rfl
    ·rcases ha with ha | ha
     ·obtain ⟨j, hj, rfl⟩ := List.getElem_of_mem ha
      split
      ·rfl
      ·rw [h.row j hj]; rfl
     ·simp at ha; rw [if_pos ha]; rfl
   ·have := (List.mem_replicate.1 hr).2; subst this; simp only [List.mem_singleton] at hy; subst hy; simp
  ·rw [if_neg e1] at ho
   have := shut_set (o := fresh σ) (x := ⟨.own, 1, List.replicate m [.bool false]⟩) h.shut (by rw [rowB_false]; exact rowB_plain _ _) o x ho hx r hr y hy
   exact within_set this
theorem Mat.more {σ : Sto} {q m : Nat} {ids : List Nat} {f : Nat → Nat → Bool} (h : Mat σ q ids m [] f) {x : Ob} (hx : Plain x.cells) : Mat (setOb σ (fresh σ) x) q ids m [] f := by
 have hq := lt_fresh h.outer
 refine ⟨by rw [look_setOb, if_neg (by omega)]; exact h.outer, h.nd, h.nq, fun j hj => ?_, shut_set h.shut hx⟩
 have := lt_fresh (h.row j hj)
 rw [look_setOb, if_neg (by omega)]; exact h.row j hj
theorem Mat.congr {σ : Sto} {q m : Nat} {ids : List Nat} {f f' : Nat → Nat → Bool} (h : Mat σ q ids m [] f) (e : ∀ i k, i < ids.length → k < m → f i k = f' i k) : Mat σ q ids m [] f' := by
 refine ⟨h.outer, h.nd, h.nq, fun j hj => ?_, h.shut⟩
 rw [h.row j hj]
 congr 2
 exact List.map_congr_left fun k hk => by rw [e j k hj (List.mem_range.1 hk)]
theorem Mat.put {σ : Sto} {q m i k : Nat} {ids : List Nat} {f : Nat → Nat → Bool} (h : Mat σ q ids m [] f) (hi : i < ids.length) (hk : k < m) :
 Mat (setOb σ ids[i] ⟨.own, 1, (rowB m (f i)).set k [.bool true]⟩) q ids m [] fun a b => f a b || (decide (a = i) && decide (b = k)) := by
 have hm := List.getElem_mem hi
 refine ⟨?_, h.nd, h.nq, fun j hj => ?_, ?_⟩
 ·rw [look_setOb, if_neg (fun e => h.nq (by rw [e]; exact hm))]; exact h.outer
 ·rw [look_setOb]
  by_cases e : j = i
  ·subst e; rw [if_pos rfl, rowB_set hk]; simp
  ·rw [if_neg, h.row j hj]
   ·simp [e]
   ·exact fun e2 => e ((List.getElem_inj h.nd).1 e2)
 ·rw [rowB_set hk]; exact shut_set h.shut (rowB_plain _ _)
theorem E.mapO_ext {α : Type} {f : α → Option α} : ∀ {l r : List α}, l.length = r.length → (∀ j (h1 : j < l.length) (h2 : j < r.length), f l[j] = some r[j]) → mapO f l = some r
 | [], [], _, _ => by simp
 | a :: l, b :: r, hl, h => by
   have h0 := h 0 (by simp) (by simp)
   have ih := mapO_ext (f := f) (l := l) (r := r) (by simpa using hl) fun j h1 h2 => h (j + 1) (by simpa using h1) (by simpa using h2)
   simp only [List.getElem_cons_zero] at h0
   rw [mapO_cons, h0, ih]
theorem E.toD_refM {σ : Sto} {o n k es : Nat} {st : St} {l l' : List (List V)} (h : E.look σ o = some ⟨st, es, l⟩) (hs : st ≠ .dead) (he : es ≠ 0) (hl : l.length = n) (hd : mapO (mapO (toD σ k)) l = some l') : toD σ (k + 1) (.ref o 0 n) = some (.dat l') := by
 show (match getOb σ o with | some x => if 0 + n ≤ x.cells.length ∧ x.es ≠ 0 then (mapO (mapO (toD σ k)) ((x.cells.drop 0).take n)).map V.dat else none | none => none) = _
 simp only [getOb, h, hs, if_false]
 subst hl
 simp [he, List.take_of_length_le, hd]
theorem Mat.data {σ : Sto} {q m n : Nat} {ids : List Nat} {f : Nat → Nat → Bool} (h : Mat σ q ids m [] f) (hn : ids.length = n) : toD σ 12 (.ref q 0 n) = some (relV n m f) := by
 subst hn
 refine E.toD_refM h.outer (by simp) (by simp) (by simp) (E.mapO_ext (by simp) fun j h1 h2 => ?_)
 have hj : j < ids.length := by simpa using h1
 simp only [List.append_nil, List.getElem_map, List.getElem_range, mapO_cons, mapO_nil]
 rw [E.toD_refM (h.row j hj) (by simp) (by simp) (by simp) (mapO_id fun r hr => ?_)]
 obtain ⟨k, _, rfl⟩ := List.mem_map.1 hr
 simp
theorem E.setOb_setOb (σ : Sto) (o : Nat) (x y : Ob) : setOb (setOb σ o x) o y = setOb σ o y := by simp [setOb, List.filter_cons]
/-! Closures over whole numbers. -/
end Go.Proofs.YtipbefckimdkkaaGreat
