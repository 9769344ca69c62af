import Derived.Test.YtipbefckimdkkaaGreatGS
import Derived.Test.YtipbefckimdkkaaGreatHA
namespace Go.Proofs.YtipbefckimdkkaaGreat
open Go Go.Proofs Go.Proofs.YtipbefckimdkkaaGreat.E
set_option linter.unusedSimpArgs false
set_option linter.unusedVariables false
def AscQ (l : List Rat) : Prop := l.Pairwise fun a b => a < b
def SrtQ (l : List Rat) : Prop := l.Pairwise fun a b => a ≤ b
theorem AscQ.ext : ∀ {l m : List Rat}, AscQ l → AscQ m → (∀ x, x ∈ l ↔ x ∈ m) → l = m
 | [], [], _, _, _ => rfl
 | [], b :: m, _, _, h => by have := (h b).2 (by simp); simp at this
 | a :: l, [], _, _, h => by have := (h a).1 (by simp); simp at this
 | a :: l, b :: m, h1, h2, h => by
   obtain ⟨a1, a2⟩ := List.pairwise_cons.1 h1
   obtain ⟨b1, b2⟩ := List.pairwise_cons.1 h2
   have e : a = b := by
    have ha := (h a).1 (by simp)
    have hb := (h b).2 (by simp)
    simp only [List.mem_cons] at ha hb
    rcases ha with ha | ha
    ·exact ha
    rcases hb with hb | hb
    ·exact hb.symm
    have x1 := b1 a ha
    have x2 := a1 b hb
    exact absurd x1 (by grind)
   subst e
   congr 1
   refine AscQ.ext a2 b2 fun p => ?_
   constructor
   ·intro hp
    have := (h p).1 (by simp [hp])
    simp only [List.mem_cons] at this
    rcases this with rfl | this
    ·have := a1 p hp; grind
    ·exact this
   ·intro hp
    have := (h p).2 (by simp [hp])
    simp only [List.mem_cons] at this
    rcases this with rfl | this
    ·have := b1 p hp; grind
    ·exact this
def cmpctQ : List Rat → List Rat
 | [] => []
 | [a] => [a]
 | a :: b :: l => if a = b then cmpctQ (b :: l) else a :: cmpctQ (b :: l)
theorem cmpctQ_mem : ∀ {l : List Rat} {x : Rat}, x ∈ cmpctQ l ↔ x ∈ l
 | [], x => by simp [cmpctQ]
 | [a], x => by simp [cmpctQ]
 | a :: b :: l, x => by
   have ih := cmpctQ_mem (l := b :: l) (x := x)
   unfold cmpctQ
   split
   ·rename_i h; subst h; rw [ih]; simp
   ·rw [List.mem_cons, ih]; simp
theorem cmpctQ_asc : ∀ {l : List Rat}, SrtQ l → AscQ (cmpctQ l)
 | [], _ => List.Pairwise.nil
 | [a], _ => by simp [cmpctQ, AscQ]
 | a :: b :: l, h => by
   obtain ⟨h1, h2⟩ := List.pairwise_cons.1 h
   have ih := cmpctQ_asc h2
   unfold cmpctQ
   split
   ·exact ih
   ·rename_i hne
    refine List.pairwise_cons.2 ⟨fun x hx => ?_, ih⟩
    rw [cmpctQ_mem] at hx
    have hb := h1 b (by simp)
    rcases List.mem_cons.1 hx with rfl | hx
    ·grind
    ·have := (List.pairwise_cons.1 h2).1 x hx
     grind
theorem cmpctQ_cons (b a : Rat) (l : List Rat) : cmpctQ (b :: a :: l) = if b = a then cmpctQ (a :: l) else b :: cmpctQ (a :: l) := by rw [cmpctQ]
theorem cmpctQ_snoc : ∀ {l : List Rat} {a x : Rat}, cmpctQ (l ++ [a, x]) = if a = x then cmpctQ (l ++ [a]) else cmpctQ (l ++ [a]) ++ [x]
 | [], a, x => by
   simp only [List.nil_append]
   rw [cmpctQ_cons]
   split
   ·rename_i h; rw [h]
   ·rfl
 | [b], a, x => by
   have ih := cmpctQ_snoc (l := []) (a := a) (x := x)
   simp only [List.nil_append] at ih
   show cmpctQ (b :: a :: [x]) = if a = x then cmpctQ (b :: a :: []) else cmpctQ (b :: a :: []) ++ [x]
   rw [cmpctQ_cons b a [x], cmpctQ_cons b a [], ih]
   repeat' split
   all_goals rfl
 | b :: c :: l, a, x => by
   have ih := cmpctQ_snoc (l := c :: l) (a := a) (x := x)
   simp only [List.cons_append] at ih ⊢
   rw [cmpctQ_cons b c, cmpctQ_cons b c, ih]
   repeat' split
   all_goals rfl
def insAt {α : Type} (X : List α) (x : α) (i j : Nat) : List α := X.take j ++ x :: ((X.take i).drop j ++ X.drop (i + 1))
theorem insAt_self {α : Type} {X : List α} {i : Nat} (h : i < X.length) : insAt X X[i] i i = X := by
 unfold insAt
 have e : (X.take i).drop i = [] := List.drop_eq_nil_of_le (by simp; omega)
 rw [e, List.nil_append, ← List.drop_eq_getElem_cons h, List.take_append_drop]
theorem insAt_len {α : Type} {X : List α} {x : α} {i j : Nat} (h : i < X.length) (hj : j ≤ i) : (insAt X x i j).length = X.length := by
 simp [insAt]; omega
theorem insAt_get {α : Type} {X : List α} {x : α} {i j : Nat} (h : i < X.length) (hj : j ≤ i) : (insAt X x i j)[j]? = some x := by
 unfold insAt
 have : (X.take j).length = j := by simp; omega
 rw [List.getElem?_append_right (by omega)]
 rw [this, Nat.sub_self]; rfl
theorem insAt_prev {α : Type} {X : List α} {x : α} {i j : Nat} (h : i < X.length) (hj : j ≤ i) (h0 : 0 < j) : (insAt X x i j)[j - 1]? = X[j - 1]? := by
 unfold insAt
 rw [List.getElem?_append_left (by simp; omega), List.getElem?_take, if_pos (by omega)]
theorem insAt_perm {α : Type} {X : List α} {i j : Nat} (h : i < X.length) (hj : j ≤ i) : (insAt X X[i] i j).Perm X := by
 have e : X = X.take j ++ ((X.take i).drop j ++ (X[i] :: X.drop (i + 1))) := by
  rw [← List.drop_eq_getElem_cons h, ← List.append_assoc]
  have : X.take j ++ (X.take i).drop j = X.take i := by
   have h2 : X.take j = (X.take i).take j := by rw [List.take_take, Nat.min_eq_left hj]
   rw [h2, List.take_append_drop]
  rw [this, List.take_append_drop]
 unfold insAt
 conv => rhs; rw [e]
 exact List.Perm.append_left _ (List.perm_middle.symm)
theorem insAt_step {α : Type} {X : List α} {x : α} {i j : Nat} (h : i < X.length) (hj : j ≤ i) (h0 : 0 < j) :
 ((insAt X x i j).set j (X[j - 1]'(by omega))).set (j - 1) x = insAt X x i (j - 1) := by
 obtain ⟨k, rfl⟩ : ∃ k, j = k + 1 := ⟨j - 1, by omega⟩
 simp only [Nat.add_sub_cancel]
 have hk : k < X.length := by omega
 have ht : X.take (k + 1) = X.take k ++ [X[k]] := List.take_succ_eq_append_getElem hk
 have hd : (X.take i).drop k = X[k] :: (X.take i).drop (k + 1) := by
  have hki : k < (X.take i).length := by simp; omega
  rw [List.drop_eq_getElem_cons hki]
  simp
 have lk : (X.take k).length = k := by simp; omega
 unfold insAt
 rw [ht, hd, List.append_assoc]
 rw [List.set_append_right _ _ (by omega), lk, List.set_append_right _ _ (by omega), lk]
 have e1 : k + 1 - k = 1 := by omega
 simp [e1]
def SrtF {α : Type} (f : α → Rat) (l : List α) : Prop := l.Pairwise fun a b => f a ≤ f b
theorem insAt_take {α : Type} {X : List α} {x : α} {i j : Nat} (h : i < X.length) (hj : j ≤ i) : (insAt X x i j).take (i + 1) = X.take j ++ x :: (X.take i).drop j := by
 unfold insAt
 have l1 : (X.take j).length = j := by simp; omega
 have l2 : ((X.take i).drop j).length = i - j := by simp; omega
 rw [List.take_append, l1, List.take_of_length_le (l := X.take j) (by omega)]
 congr 1
 have e : i + 1 - j = (i - j) + 1 := by omega
 rw [e, List.take_succ_cons, List.take_append, l2, Nat.sub_self, List.take_zero, List.append_nil, List.take_of_length_le (by omega)]
theorem insAt_srt {α : Type} {f : α → Rat} {X : List α} {x : α} {i j : Nat} (h : i < X.length) (hj : j ≤ i) (hs : SrtF f (X.take i)) (h1 : ∀ y ∈ (X.take i).drop j, f x < f y) (h2 : ∀ hp : 0 < j, f (X[j - 1]'(by omega)) ≤ f x) : SrtF f ((insAt X x i j).take (i + 1)) := by
 rw [insAt_take h hj]
 have ht : X.take j = (X.take i).take j := by rw [List.take_take, Nat.min_eq_left hj]
 have hsp : X.take i = X.take j ++ (X.take i).drop j := by rw [ht, List.take_append_drop]
 have hs' := hs
 rw [hsp] at hs'
 obtain ⟨s1, s2, s3⟩ := List.pairwise_append.1 hs'
 have hle : ∀ y ∈ X.take j, f y ≤ f x := fun y hy => by
  have hp : 0 < j := by
   rcases Nat.eq_zero_or_pos j with h | h
   ·subst h; simp at hy
   ·exact h
  obtain ⟨k, rfl⟩ : ∃ k, j = k + 1 := ⟨j - 1, by omega⟩
  have hk : k < X.length := by omega
  have e : X.take (k + 1) = X.take k ++ [X[k]] := List.take_succ_eq_append_getElem hk
  have h3 : f X[k] ≤ f x := h2 hp
  rw [e] at hy s1
  rcases List.mem_append.1 hy with hy | hy
  ·have := (List.pairwise_append.1 s1).2.2 y hy X[k] (by simp)
   exact Rat.le_trans this h3
  ·simp at hy; subst hy; exact h3
 refine List.pairwise_append.2 ⟨s1, List.pairwise_cons.2 ⟨fun y hy => Rat.le_of_lt (h1 y hy), s2⟩, fun y hy z hz => ?_⟩
 rcases List.mem_cons.1 hz with rfl | hz
 ·exact hle y hy
 ·exact s3 y hy z hz
theorem SrtF.map {α : Type} {f : α → Rat} {l : List α} (h : SrtF f l) : SrtQ (l.map f) := List.pairwise_map.2 h
end Go.Proofs.YtipbefckimdkkaaGreat

namespace Go.Proofs.YtipbefckimdkkaaGreat
open Go Go.Proofs Go.Proofs.YtipbefckimdkkaaGreat.E
set_option linter.unusedSimpArgs false
set_option linter.unusedVariables false
def belowQ (r : Rat) : Option Rat → Bool
 | some n => decide (r < n)
 | none => true
def nextQ (last : Rat) : List Rat → Option Rat → Option Rat
 | [], o => o
 | r :: l, o => nextQ last l (if last < r ∧ belowQ r o = true then some r else o)
def lesQ (last : Rat) (l : List Rat) (o : Option Rat) : Prop := match o with
 | some n => last < n ∧ n ∈ l ∧ ∀ r ∈ l, last < r → n ≤ r
 | none => ∀ r ∈ l, ¬ last < r
theorem nextQ_spec {last : Rat} : ∀ {l s : List Rat} {o : Option Rat}, lesQ last s o → lesQ last (s ++ l) (nextQ last l o)
 | [], s, o, h => by simpa [nextQ] using h
 | r :: l, s, o, h => by
   unfold nextQ
   have e : s ++ r :: l = (s ++ [r]) ++ l := by simp
   rw [e]
   refine nextQ_spec ?_
   cases o with
   | none =>
     have h' : ∀ r ∈ s, ¬ last < r := h
     by_cases c : last < r
     ·rw [if_pos ⟨c, rfl⟩]
      refine ⟨c, by simp, fun x hx hl => ?_⟩
      rcases List.mem_append.1 hx with hx | hx
      ·exact absurd hl (h' x hx)
      ·simp at hx; subst hx; exact Rat.le_refl
     ·rw [if_neg fun h => c h.1]
      intro x hx
      rcases List.mem_append.1 hx with hx | hx
      ·exact h' x hx
      ·simp at hx; subst hx; exact c
   | some n =>
     obtain ⟨h1, h2, h3⟩ : last < n ∧ n ∈ s ∧ ∀ r ∈ s, last < r → n ≤ r := h
     by_cases c : last < r ∧ belowQ r (some n) = true
     ·rw [if_pos c]
      have c2 : r < n := of_decide_eq_true c.2
      refine ⟨c.1, by simp, fun x hx hl => ?_⟩
      rcases List.mem_append.1 hx with hx | hx
      ·have := h3 x hx hl; grind
      ·simp at hx; subst hx; exact Rat.le_refl
     ·rw [if_neg c]
      refine ⟨h1, List.mem_append.2 (.inl h2), fun x hx hl => ?_⟩
      rcases List.mem_append.1 hx with hx | hx
      ·exact h3 x hx hl
      ·simp at hx; subst hx
       have c2 : ¬ x < n := fun h => c ⟨hl, decide_eq_true h⟩
       exact Rat.not_lt.1 c2
theorem nextQ_eq {last : Rat} (l : List Rat) : lesQ last l (nextQ last l none) := by
 have := nextQ_spec (last := last) (l := l) (s := []) (o := none) (by intro r hr; simp at hr)
 simpa using this
structure RtsQ (l R : List Rat) : Prop where
 asc : AscQ R
 mem : ∀ x, x ∈ R ↔ x = 1 ∨ x ∈ l ∧ 1 < x
theorem RtsQ.ne {l R : List Rat} (h : RtsQ l R) : R ≠ [] := fun e => by
 have := (h.mem 1).2 (.inl rfl)
 rw [e] at this; simp at this
theorem asc_lt {R : List Rat} (h : AscQ R) {i j : Nat} (hj : j < R.length) (hi : i < j) : R[i]'(by omega) < R[j] := List.pairwise_iff_getElem.1 h i j (by omega) hj hi
theorem RtsQ.head {l R : List Rat} (h : RtsQ l R) (h0 : 0 < R.length) : R[0] = 1 := by
 have h1 := (h.mem 1).2 (.inl rfl)
 obtain ⟨k, hk, e⟩ := List.mem_iff_getElem.1 h1
 rcases (h.mem R[0]).1 (List.getElem_mem h0) with h2 | ⟨_, h2⟩
 ·exact h2
 ·by_cases k0 : k = 0
  ·subst k0; exact e
  ·have := asc_lt h.asc hk (show 0 < k by omega)
   rw [e] at this; grind
theorem RtsQ.next {l R : List Rat} (h : RtsQ l R) {k : Nat} (hk : k < R.length) : nextQ R[k] l none = R[k + 1]? := by
 have sp := nextQ_eq (last := R[k]) l
 have one : (1 : Rat) ≤ R[k] := by
  rcases (h.mem R[k]).1 (List.getElem_mem hk) with e | ⟨_, e⟩
  ·rw [e]; exact Rat.le_refl
  ·exact Rat.le_of_lt e
 by_cases h1 : k + 1 < R.length
 ·rw [List.getElem?_eq_getElem h1]
  have lt := asc_lt h.asc h1 (show k < k + 1 by omega)
  have hm : R[k + 1] ∈ l ∧ 1 < R[k + 1] := by
   rcases (h.mem R[k + 1]).1 (List.getElem_mem h1) with e | e
   ·rw [e] at lt; grind
   ·exact e
  cases hn : nextQ R[k] l none with
  | none =>
    rw [hn] at sp
    exact absurd lt (sp _ hm.1)
  | some n =>
    rw [hn] at sp
    obtain ⟨s1, s2, s3⟩ : R[k] < n ∧ n ∈ l ∧ ∀ r ∈ l, R[k] < r → n ≤ r := sp
    have hnR : n ∈ R := (h.mem n).2 (.inr ⟨s2, by grind⟩)
    obtain ⟨j, hj, e⟩ := List.mem_iff_getElem.1 hnR
    have hjk : k < j := by
     rcases Nat.lt_trichotomy j k with c | c | c
     ·have := asc_lt h.asc hk c; rw [e] at this; grind
     ·subst c; rw [e] at s1; grind
     ·exact c
    have le := s3 _ hm.1 lt
    by_cases c : j = k + 1
    ·subst c; rw [e]
    ·have := asc_lt h.asc hj (show k + 1 < j by omega)
     rw [e] at this; grind
 ·rw [List.getElem?_eq_none (by omega)]
  cases hn : nextQ R[k] l none with
  | none => rfl
  | some n =>
    rw [hn] at sp
    obtain ⟨s1, s2, s3⟩ : R[k] < n ∧ n ∈ l ∧ ∀ r ∈ l, R[k] < r → n ≤ r := sp
    have hnR : n ∈ R := (h.mem n).2 (.inr ⟨s2, by grind⟩)
    obtain ⟨j, hj, e⟩ := List.mem_iff_getElem.1 hnR
    have : j ≤ k := by omega
    rcases Nat.lt_or_eq_of_le this with c | c
    ·have := asc_lt h.asc hk c; rw [e] at this; grind
    ·subst c; rw [e] at s1; grind
def maxQ (l : List Rat) : Rat := l.foldl (fun m r => if m < r then r else m) 1
theorem maxQ_spec : ∀ {l : List Rat} {m : Rat}, m ≤ l.foldl (fun m r => if m < r then r else m) m ∧ (∀ r ∈ l, r ≤ l.foldl (fun m r => if m < r then r else m) m) ∧ (l.foldl (fun m r => if m < r then r else m) m = m ∨ l.foldl (fun m r => if m < r then r else m) m ∈ l)
 | [], m => by simp
 | a :: l, m => by
   rw [List.foldl_cons]
   obtain ⟨h1, h2, h3⟩ := maxQ_spec (l := l) (m := if m < a then a else m)
   refine ⟨?_, fun r hr => ?_, ?_⟩
   ·refine Rat.le_trans ?_ h1; split <;> grind
   ·rcases List.mem_cons.1 hr with rfl | hr
    ·refine Rat.le_trans ?_ h1; split <;> grind
    ·exact h2 r hr
   ·rcases h3 with h3 | h3
    ·rw [h3]
     by_cases c : m < a
     ·rw [if_pos c]; exact .inr (by simp)
     ·rw [if_neg c]; exact .inl rfl
    ·exact .inr (by simp [h3])
theorem RtsQ.last {l R : List Rat} (h : RtsQ l R) (h0 : R.length - 1 < R.length) : R[R.length - 1] = maxQ l := by
 obtain ⟨m1, m2, m3⟩ := maxQ_spec (l := l) (m := 1)
 have e : maxQ l = l.foldl (fun m r => if m < r then r else m) 1 := rfl
 rw [← e] at m1 m2 m3
 have hm : maxQ l ∈ R := by
  by_cases c : maxQ l = 1
  ·exact (h.mem _).2 (.inl c)
  ·rcases m3 with m3 | m3
   ·exact absurd m3 c
   ·exact (h.mem _).2 (.inr ⟨m3, by grind⟩)
 obtain ⟨j, hj, ej⟩ := List.mem_iff_getElem.1 hm
 have hle : R[R.length - 1] ≤ maxQ l := by
  rcases (h.mem R[R.length - 1]).1 (List.getElem_mem h0) with e | ⟨e, _⟩
  ·rw [e]; exact m1
  ·exact m2 _ e
 by_cases c : j = R.length - 1
 ·subst c; exact ej
 ·have := asc_lt h.asc h0 (show j < R.length - 1 by omega)
  rw [ej] at this; grind
end Go.Proofs.YtipbefckimdkkaaGreat

namespace Go.Proofs.YtipbefckimdkkaaGreat
open Go Go.Proofs Go.Proofs.YtipbefckimdkkaaGreat.E
set_option linter.unusedSimpArgs false
set_option linter.unusedVariables false
def rtsQ (a b : List Part) : List Rat := a.filterMap fun p => if wtQ b p.v = 0 then none else some (p.w.q / wtQ b p.v)
def allQ (a b : List Part) : Bool := a.all fun p => decide (wtQ b p.v ≠ 0)
theorem rtsQ_take {a b : List Part} {i : Nat} (h : i < a.length) : rtsQ (a.take (i + 1)) b = rtsQ (a.take i) b ++ (if wtQ b a[i].v = 0 then [] else [a[i].w.q / wtQ b a[i].v]) := by
 unfold rtsQ
 rw [List.take_succ_eq_append_getElem h, List.filterMap_append]
 congr 1
 by_cases h0 : wtQ b a[i].v = 0 <;> simp [h0]
theorem allQ_take {a b : List Part} {i : Nat} (h : i < a.length) : allQ (a.take (i + 1)) b = (allQ (a.take i) b && decide (wtQ b a[i].v ≠ 0)) := by
 unfold allQ
 rw [List.take_succ_eq_append_getElem h, List.all_append]
 simp
theorem rtsQ_len (a b : List Part) : (rtsQ a b).length ≤ a.length := List.length_filterMap_le _ _
def prgQ (a b : List Part) : List Rat := 1 :: (rtsQ a b).filter fun r => decide (1 < r)
theorem prgQ_take {a b : List Part} {i : Nat} (h : i < a.length) : prgQ (a.take (i + 1)) b = prgQ (a.take i) b ++ (if wtQ b a[i].v ≠ 0 ∧ 1 < a[i].w.q / wtQ b a[i].v then [a[i].w.q / wtQ b a[i].v] else []) := by
 unfold prgQ
 rw [rtsQ_take h, List.filter_append, List.cons_append]
 congr 2
 by_cases h0 : wtQ b a[i].v = 0
 ·simp [h0]
 ·by_cases h1 : 1 < a[i].w.q / wtQ b a[i].v <;> simp [h0, h1]
theorem prgQ_mem {a b : List Part} {x : Rat} : x ∈ prgQ a b ↔ x = 1 ∨ x ∈ rtsQ a b ∧ 1 < x := by
 unfold prgQ
 rw [List.mem_cons, List.mem_filter]
 simp
end Go.Proofs.YtipbefckimdkkaaGreat
