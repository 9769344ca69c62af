set_option linter.unusedVariables false
set_option linter.unusedSimpArgs false
namespace Go.Proofs.YtipbefckimdkkaaGreat.E
inductive Tr where
 | mk (k n : Int) (l : List Tr)
def Tr.k : Tr → Int | .mk k _ _ => k
def Tr.n : Tr → Int | .mk _ n _ => n
def Tr.l : Tr → List Tr | .mk _ _ l => l
theorem Tr.ind {p : Tr → Prop} (h : ∀ k n l, (∀ x ∈ l, p x) → p (.mk k n l)) : ∀ t, p t
 | .mk k n l => h k n l fun x hx => Tr.ind h x
inductive Tr.Ok : Tr → Prop
 | mk {k n : Int} {l : List Tr} (hk : -9223372036854775808 ≤ k ∧ k < 9223372036854775808) (hn : -9223372036854775808 ≤ n ∧ n < 9223372036854775808) (hl : l.length < 9223372036854775808) (h : ∀ x ∈ l, x.Ok) : Tr.Ok (.mk k n l)
def cmpI (a b : Int) : Int := if a < b then -1 else if b < a then 1 else 0
def orI (a b : Int) : Int := if a = 0 then b else a
mutual
def cmpT : Tr → Tr → Int
 | .mk k n l, .mk k' n' l' => orI (cmpI k k') (orI (cmpI n n') (cmpL l l'))
def cmpL : List Tr → List Tr → Int
 | [], [] => 0
 | [], _ :: _ => -1
 | _ :: _, [] => 1
 | a :: l, b :: m => orI (cmpT a b) (cmpL l m)
end
theorem cmpT_mk (k n l k' n' l') : cmpT (.mk k n l) (.mk k' n' l') = orI (cmpI k k') (orI (cmpI n n') (cmpL l l')) := by rw [cmpT]
theorem cmpI_zero {a b : Int} : cmpI a b = 0 ↔ a = b := by unfold cmpI; split; omega; split <;> omega
theorem orI_zero {a b : Int} : orI a b = 0 ↔ a = 0 ∧ b = 0 := by unfold orI; split <;> simp_all
theorem cmpL_step {l m : List Tr} {i : Nat} (hi : i < l.length) (hm : i < m.length) : cmpL (l.drop i) (m.drop i) = orI (cmpT l[i] m[i]) (cmpL (l.drop (i + 1)) (m.drop (i + 1))) := by
 rw [List.drop_eq_getElem_cons hi, List.drop_eq_getElem_cons hm, cmpL]
theorem cmpT_zero : ∀ (a b : Tr), cmpT a b = 0 ↔ a = b := by
 intro a
 induction a using Tr.ind with
 | h k n l ih =>
   intro b
   cases b with
   | mk k' n' l' =>
     rw [cmpT_mk, orI_zero, orI_zero, cmpI_zero, cmpI_zero]
     have hl : cmpL l l' = 0 ↔ l = l' := by
      clear k n k' n'
      induction l generalizing l' with
      | nil => cases l' <;> simp [cmpL]
      | cons a l ihl =>
        cases l' with
        | nil => simp [cmpL]
        | cons b l' =>
          rw [cmpL, orI_zero, ih a (by simp), ihl (fun x hx => ih x (by simp [hx]))]
          simp
     rw [hl]
     simp
theorem cmpT_self (a : Tr) : cmpT a a = 0 := (cmpT_zero a a).2 rfl
mutual
/-- How many nodes. -/
def cntT : Tr → Nat
 | .mk _ _ l => cntL l + 1
def cntL : List Tr → Nat
 | [] => 0
 | a :: l => cntT a + cntL l
end
theorem cntT_mk (k n l) : cntT (.mk k n l) = cntL l + 1 := by rw [cntT]
theorem cntL_append (l m : List Tr) : cntL (l ++ m) = cntL l + cntL m := by
 induction l with
 | nil => simp [cntL]
 | cons a l ih => simp only [List.cons_append, cntL, ih]; omega
theorem cntL_take {l : List Tr} {i : Nat} (h : i < l.length) : cntL (l.take (i + 1)) = cntL (l.take i) + cntT l[i] := by
 rw [List.take_succ_eq_append_getElem h, cntL_append]; simp [cntL]
theorem cntL_split (l : List Tr) (i : Nat) : cntL l = cntL (l.take i) + cntL (l.drop i) := by
 rw [← cntL_append, List.take_append_drop]
theorem cntT_pos (a : Tr) : 0 < cntT a := by cases a; rw [cntT_mk]; omega
end Go.Proofs.YtipbefckimdkkaaGreat.E

set_option linter.unusedVariables false
set_option linter.unusedSimpArgs false
namespace Go.Proofs.YtipbefckimdkkaaGreat.E
inductive Ty where
 | mk (k : Int) (l : List Ty)
def Ty.k : Ty → Int | .mk k _ => k
def Ty.l : Ty → List Ty | .mk _ l => l
theorem Ty.ind {p : Ty → Prop} (h : ∀ k l, (∀ x ∈ l, p x) → p (.mk k l)) : ∀ t, p t
 | .mk k l => h k l fun x hx => Ty.ind h x
inductive Ty.Ok : Ty → Prop
 | mk {k : Int} {l : List Ty} (hl : l.length ≤ 4) (h : ∀ x ∈ l, x.Ok) : Ty.Ok (.mk k l)
def closedT : Ty → Ty
 | .mk k l => if k = 0 then .mk 1 [] else .mk k (l.map fun x => closedT x)
theorem closedT_mk (k : Int) (l : List Ty) : closedT (.mk k l) = if k = 0 then .mk 1 [] else .mk k (l.map closedT) := by rw [closedT]
mutual
def joinT : Ty → Ty → Option Ty
 | .mk k l, .mk k' l' => if k = 0 then some (.mk k' l') else if k' = 0 then some (.mk k l) else if k ≠ k' ∨ l.length ≠ l'.length then none else (joinL l l').map (.mk k)
def joinL : List Ty → List Ty → Option (List Ty)
 | a :: l, b :: m => match joinT a b, joinL l m with
   | some x, some r => some (x :: r)
   | _, _ => none
 | _, _ => some []
end
mutual
/-- Is a type right, and nested at most so deep? -/
def deepT : Ty → Int → Bool
 | .mk k l, left => decide (1 ≤ left) && (if k = 1 ∨ k = 2 then decide (l.length = 0) else if k = 3 then decide (2 ≤ l.length) && decide (l.length ≤ 4) && deepL l (left - 1) else if k = 4 then decide (l.length = 1) && deepL l (left - 1) else false)
def deepL : List Ty → Int → Bool
 | [], _ => true
 | a :: l, left => deepT a left && deepL l left
end
theorem deepL_all (l : List Ty) (left : Int) : deepL l left = l.all fun x => deepT x left := by
 induction l with
 | nil => rw [deepL]; rfl
 | cons a l ih => rw [deepL, ih]; rfl
theorem deepT_mk (k : Int) (l : List Ty) (left : Int) : deepT (.mk k l) left = (decide (1 ≤ left) && (if k = 1 ∨ k = 2 then decide (l.length = 0) else if k = 3 then decide (2 ≤ l.length) && decide (l.length ≤ 4) && l.all (fun x => deepT x (left - 1)) else if k = 4 then decide (l.length = 1) && l.all (fun x => deepT x (left - 1)) else false)) := by rw [deepT, deepL_all]
end Go.Proofs.YtipbefckimdkkaaGreat.E

set_option linter.unusedVariables false
set_option linter.unusedSimpArgs false
namespace Go.Proofs.YtipbefckimdkkaaGreat.E
def leafOK (k n : Int) (l : List Tr) : Bool := (if k = 1 then decide (n = 0 ∨ n = 1) else decide (-2147483648 ≤ n) && decide (n ≤ 2147483647)) && decide (l.length = 0)
mutual
/-- The type of a value, as far as it shows. -/
def shapeT : Tr → Int → Option Ty
 | .mk k n l, left =>
   if left < 1 then none
   else if k = 1 ∨ k = 2 then (if leafOK k n l then some (.mk k []) else none)
   else if k = 3 ∧ n = 0 ∧ 2 ≤ l.length ∧ l.length ≤ 4 then (shapeL l (left - 1)).map (.mk k)
   else if k = 4 ∧ n = 0 ∧ l.length ≤ 32 then (foldS (.mk 0 []) l (left - 1)).map fun t => .mk k [t]
   else none
def shapeL : List Tr → Int → Option (List Ty)
 | [], _ => some []
 | a :: l, left => match shapeT a left, shapeL l left with
   | some x, some r => some (x :: r)
   | _, _ => none
def foldS : Ty → List Tr → Int → Option Ty
 | acc, [], _ => some acc
 | acc, a :: l, left => match shapeT a left with
   | some x => match joinT acc x with
     | some y => foldS y l left
     | none => none
   | none => none
end
theorem shapeT_mk (k n : Int) (l : List Tr) (left : Int) : shapeT (.mk k n l) left = if left < 1 then none
 else if k = 1 ∨ k = 2 then (if leafOK k n l then some (.mk k []) else none)
 else if k = 3 ∧ n = 0 ∧ 2 ≤ l.length ∧ l.length ≤ 4 then (shapeL l (left - 1)).map (.mk k)
 else if k = 4 ∧ n = 0 ∧ l.length ≤ 32 then (foldS (.mk 0 []) l (left - 1)).map fun t => .mk k [t]
 else none := by rw [shapeT]
theorem shapeL_step {l : List Tr} {i : Nat} {left : Int} (hi : i < l.length) : shapeL (l.drop i) left = match shapeT l[i] left, shapeL (l.drop (i + 1)) left with | some x, some r => some (x :: r) | _, _ => none := by
 rw [List.drop_eq_getElem_cons hi, shapeL]
theorem shapeL_end {l : List Tr} {i : Nat} {left : Int} (hi : l.length ≤ i) : shapeL (l.drop i) left = some [] := by
 rw [List.drop_eq_nil_of_le hi, shapeL]
theorem foldS_step {l : List Tr} {i : Nat} {left : Int} {acc : Ty} (hi : i < l.length) : foldS acc (l.drop i) left = match shapeT l[i] left with | some x => (match joinT acc x with | some y => foldS y (l.drop (i + 1)) left | none => none) | none => none := by
 rw [List.drop_eq_getElem_cons hi, foldS]
theorem foldS_end {l : List Tr} {i : Nat} {left : Int} {acc : Ty} (hi : l.length ≤ i) : foldS acc (l.drop i) left = some acc := by
 rw [List.drop_eq_nil_of_le hi, foldS]
theorem joinT_ok : ∀ {a b t : Ty}, a.Ok → b.Ok → joinT a b = some t → t.Ok := by
 intro a
 induction a using Ty.ind with
 | h k l ih =>
   intro b t ha hb h
   cases b with
   | mk k' l' =>
   rw [joinT] at h
   split at h
   ·injection h with h; subst h; exact hb
   split at h
   ·injection h with h; subst h; exact ha
   split at h
   ·simp at h
   ·rename_i hne
    cases ha with
    | mk hl hc =>
    cases hb with
    | mk hl' hc' =>
    have key : ∀ (l l' r : List Ty), (∀ x ∈ l, x.Ok) → (∀ x ∈ l, ∀ {b t : Ty}, x.Ok → b.Ok → joinT x b = some t → t.Ok) → (∀ x ∈ l', x.Ok) → joinL l l' = some r → r.length ≤ l.length ∧ ∀ x ∈ r, x.Ok := by
     intro l
     induction l with
     | nil => intro l' r _ _ _ h; simp [joinL] at h; subst h; simp
     | cons a l ihl =>
       intro l' r h1 h2 h3 h
       cases l' with
       | nil => simp [joinL] at h; subst h; simp
       | cons b l' =>
         rw [joinL] at h
         split at h
         ·rename_i x r' e1 e2
          injection h with h; subst h
          obtain ⟨g1, g2⟩ := ihl l' r' (fun x hx => h1 x (by simp [hx])) (fun x hx => h2 x (by simp [hx])) (fun x hx => h3 x (by simp [hx])) e2
          refine ⟨by simp; omega, fun y hy => ?_⟩
          rcases List.mem_cons.1 hy with rfl | hy
          ·exact h2 a (by simp) (h1 a (by simp)) (h3 b (by simp)) e1
          ·exact g2 y hy
         ·simp at h
    cases hj : joinL l l' with
    | none => rw [hj] at h; simp at h
    | some r =>
      rw [hj] at h
      simp at h; subst h
      obtain ⟨g1, g2⟩ := key l l' r hc (fun x hx => ih x hx) hc' hj
      exact .mk (by omega) g2
theorem shapeT_ok : ∀ {a : Tr} {left : Int} {t : Ty}, shapeT a left = some t → t.Ok := by
 intro a
 induction a using Tr.ind with
 | h k n l ih =>
   intro left t h
   rw [shapeT_mk] at h
   split at h
   ·simp at h
   split at h
   ·split at h
    ·injection h with h; subst h; exact .mk (by simp) (by simp)
    ·simp at h
   have kl : ∀ (l : List Tr) (r : List Ty), (∀ x ∈ l, ∀ {left : Int} {t : Ty}, shapeT x left = some t → t.Ok) → shapeL l (left - 1) = some r → r.length = l.length ∧ ∀ x ∈ r, x.Ok := by
    intro l
    induction l with
    | nil => intro r _ h; simp [shapeL] at h; subst h; simp
    | cons a l ihl =>
      intro r h1 h
      rw [shapeL] at h
      split at h
      ·rename_i x r' e1 e2
       injection h with h; subst h
       obtain ⟨g1, g2⟩ := ihl r' (fun x hx => h1 x (by simp [hx])) e2
       refine ⟨by simp [g1], fun y hy => ?_⟩
       rcases List.mem_cons.1 hy with rfl | hy
       ·exact h1 a (by simp) e1
       ·exact g2 y hy
      ·simp at h
   have kf : ∀ (l : List Tr) (acc r : Ty), acc.Ok → (∀ x ∈ l, ∀ {left : Int} {t : Ty}, shapeT x left = some t → t.Ok) → foldS acc l (left - 1) = some r → r.Ok := by
    intro l
    induction l with
    | nil => intro acc r h0 _ h; simp [foldS] at h; subst h; exact h0
    | cons a l ihl =>
      intro acc r h0 h1 h
      rw [foldS] at h
      split at h
      ·rename_i x e1
       split at h
       ·rename_i y e2
        exact ihl y r (joinT_ok h0 (h1 a (by simp) e1) e2) (fun x hx => h1 x (by simp [hx])) h
       ·simp at h
      ·simp at h
   split at h
   ·rename_i hk
    cases hs : shapeL l (left - 1) with
    | none => rw [hs] at h; simp at h
    | some r =>
      rw [hs] at h
      simp at h; subst h
      obtain ⟨g1, g2⟩ := kl l r (fun x hx => ih x hx) hs
      exact .mk (by omega) g2
   split at h
   ·cases hs : foldS (.mk 0 []) l (left - 1) with
    | none => rw [hs] at h; simp at h
    | some r =>
      rw [hs] at h
      simp at h; subst h
      exact .mk (by simp) (by simp; exact kf l _ r (.mk (by simp) (by simp)) (fun x hx => ih x hx) hs)
   ·simp at h
end Go.Proofs.YtipbefckimdkkaaGreat.E

set_option linter.unusedVariables false
set_option linter.unusedSimpArgs false
namespace Go.Proofs.YtipbefckimdkkaaGreat.E
mutual
/-- The type of a value; a list may not stand at the deepest place. -/
def openT : Tr → Int → Option Ty
 | .mk k n l, left =>
   if left < 1 then none
   else if k = 1 ∨ k = 2 then (if leafOK k n l then some (.mk k []) else none)
   else if k = 3 ∧ n = 0 ∧ 2 ≤ l.length ∧ l.length ≤ 4 then (openL l (left - 1)).map (.mk k)
   else if k = 4 ∧ n = 0 ∧ l.length ≤ 32 ∧ left ≠ 1 then (foldO (.mk 0 []) l (left - 1)).map fun t => .mk k [t]
   else none
def openL : List Tr → Int → Option (List Ty)
 | [], _ => some []
 | a :: l, left => match openT a left, openL l left with
   | some x, some r => some (x :: r)
   | _, _ => none
def foldO : Ty → List Tr → Int → Option Ty
 | acc, [], _ => some acc
 | acc, a :: l, left => match openT a left with
   | some x => match joinT acc x with
     | some y => foldO y l left
     | none => none
   | none => none
end
theorem openT_mk (k n : Int) (l : List Tr) (left : Int) : openT (.mk k n l) left = if left < 1 then none
 else if k = 1 ∨ k = 2 then (if leafOK k n l then some (.mk k []) else none)
 else if k = 3 ∧ n = 0 ∧ 2 ≤ l.length ∧ l.length ≤ 4 then (openL l (left - 1)).map (.mk k)
 else if k = 4 ∧ n = 0 ∧ l.length ≤ 32 ∧ left ≠ 1 then (foldO (.mk 0 []) l (left - 1)).map fun t => .mk k [t]
 else none := by rw [openT]
theorem deepT_low {t : Ty} {left : Int} (h : left < 1) : deepT t left = false := by
 cases t; rw [deepT_mk]; simp; omega
theorem join_deep : ∀ {a b c : Ty}, joinT a b = some c → ∀ (left : Int), deepT (closedT c) left = (deepT (closedT a) left && deepT (closedT b) left) := by
 intro a
 induction a using Ty.ind with
 | h k l ih =>
   intro b c h left
   cases b with
   | mk k' l' =>
   by_cases hl : left < 1
   ·simp [deepT_low hl]
   have hl' : 1 ≤ left := by omega
   have leaf : deepT (.mk 1 []) left = true := by rw [deepT_mk]; simp [hl']
   rw [joinT] at h
   split at h
   ·rename_i h0
    injection h with h; subst h; subst h0
    have : closedT (.mk 0 l) = .mk 1 [] := by rw [closedT_mk]; simp
    rw [this, leaf]; simp
   split at h
   ·rename_i h0
    injection h with h; subst h; subst h0
    have : closedT (.mk 0 l') = .mk 1 [] := by rw [closedT_mk]; simp
    rw [this, leaf]; simp
   split at h
   ·simp at h
   ·rename_i h0 h0' hne
    have hk : k = k' := by
     by_cases e : k = k'
     ·exact e
     ·exact (hne (.inl e)).elim
    subst hk
    have hlen : l.length = l'.length := by
     by_cases e : l.length = l'.length
     ·exact e
     ·exact (hne (.inr e)).elim
    have key : ∀ (l l' r : List Ty) (left : Int), (∀ x ∈ l, ∀ {b c : Ty}, joinT x b = some c → ∀ (left : Int), deepT (closedT c) left = (deepT (closedT x) left && deepT (closedT b) left)) → l.length = l'.length → joinL l l' = some r → r.length = l.length ∧ (r.map closedT).all (fun x => deepT x left) = ((l.map closedT).all (fun x => deepT x left) && (l'.map closedT).all (fun x => deepT x left)) := by
     intro l
     induction l with
     | nil => intro l' r left _ hlen h; cases l' with | nil => simp [joinL] at h; subst h; simp | cons => simp at hlen
     | cons a l ihl =>
       intro l' r left h1 hlen h
       cases l' with
       | nil => simp at hlen
       | cons b l' =>
         rw [joinL] at h
         split at h
         ·rename_i x r' e1 e2
          injection h with h; subst h
          obtain ⟨g1, g2⟩ := ihl l' r' left (fun x hx => h1 x (by simp [hx])) (by simpa using hlen) e2
          refine ⟨by simp [g1], ?_⟩
          simp only [List.map_cons, List.all_cons, g2, h1 a (by simp) e1 left]
          cases deepT (closedT a) left <;> cases deepT (closedT b) left <;> cases (List.map closedT l).all (fun x => deepT x left) <;> simp
         ·simp at h
    cases hj : joinL l l' with
    | none => rw [hj] at h; simp at h
    | some r =>
      rw [hj] at h
      simp at h; subst h
      obtain ⟨g1, g2⟩ := key l l' r (left - 1) (fun x hx => ih x hx) hlen hj
      rw [closedT_mk, closedT_mk, closedT_mk, if_neg h0, if_neg h0, if_neg h0, deepT_mk, deepT_mk, deepT_mk]
      simp only [List.length_map, g1, ← hlen, g2]
      have e1 : decide (1 ≤ left) = true := by simpa using hl'
      rw [e1]
      generalize (List.map closedT l).all (fun x => deepT x (left - 1)) = A
      generalize (List.map closedT l').all (fun x => deepT x (left - 1)) = B
      by_cases k12 : k = 1 ∨ k = 2
      ·simp [k12]
      ·by_cases k3 : k = 3
       ·simp [k12, k3]; cases A <;> cases B <;> simp
       ·by_cases k4 : k = 4
        ·simp [k12, k3, k4]; cases A <;> cases B <;> simp
        ·simp [k12, k3, k4]
def cutT (left : Int) : Option Ty → Option Ty
 | some t => if deepT (closedT t) left then some t else none
 | none => none
theorem fold_deep : ∀ {l : List Tr} {acc t : Ty} {left : Int}, foldS acc l left = some t → deepT (closedT acc) left = false → deepT (closedT t) left = false
 | [], acc, t, left, h, h0 => by rw [foldS] at h; injection h with h; subst h; exact h0
 | a :: l, acc, t, left, h, h0 => by
   rw [foldS] at h
   split at h
   ·split at h
    ·rename_i x _ y hy
     exact fold_deep h (by rw [join_deep hy left, h0]; rfl)
    ·simp at h
   ·simp at h
theorem open_shape : ∀ (a : Tr) (left : Int), openT a left = cutT left (shapeT a left) := by
 intro a
 induction a using Tr.ind with
 | h k n l ih =>
   intro left
   rw [openT_mk, shapeT_mk]
   by_cases h0 : left < 1
   ·simp [h0, cutT]
   have h0' : 1 ≤ left := by omega
   simp only [h0, if_false]
   by_cases h1 : k = 1 ∨ k = 2
   ·simp only [h1, if_true]
    cases leafOK k n l
    ·simp [cutT]
    ·have k0 : ¬ k = 0 := by rcases h1 with h | h <;> omega
     have : deepT (closedT (.mk k [])) left = true := by
      rw [closedT_mk, if_neg k0, deepT_mk]; simp [h0', h1]
     simp [cutT, this]
   simp only [h1, if_false]
   have hL : ∀ (l : List Tr), (∀ x ∈ l, ∀ left, openT x left = cutT left (shapeT x left)) → ∀ left, openL l left = match shapeL l left with | some ts => if ts.all (fun t => deepT (closedT t) left) then some ts else none | none => none := by
    intro l
    induction l with
    | nil => intro _ left; simp [openL, shapeL]
    | cons a l ihl =>
      intro h left
      rw [openL, shapeL, h a (by simp), ihl (fun x hx => h x (by simp [hx]))]
      cases hs : shapeT a left with
      | none => simp [cutT]
      | some t =>
        cases hr : shapeL l left with
        | none => simp only [cutT]; split <;> simp_all
        | some ts =>
          by_cases c1 : deepT (closedT t) left = true <;> by_cases c2 : ts.all (fun t => deepT (closedT t) left) = true <;> simp only [cutT, List.all_cons, c1, c2, Bool.and_self, if_true, if_false, Bool.false_eq_true, Bool.and_false, Bool.false_and, Bool.true_and, Bool.and_true]
   by_cases h3 : k = 3 ∧ n = 0 ∧ 2 ≤ l.length ∧ l.length ≤ 4
   ·simp only [h3, and_self, if_true]
    rw [hL l (fun x hx => ih x hx)]
    cases hr : shapeL l (left - 1) with
    | none => simp [cutT]
    | some ts =>
      have hlen : ts.length = l.length := by
       have : ∀ (l : List Tr) (ts : List Ty), shapeL l (left - 1) = some ts → ts.length = l.length := by
        intro l
        induction l with
        | nil => intro ts h; simp [shapeL] at h; subst h; rfl
        | cons a l ihl =>
          intro ts h
          rw [shapeL] at h
          split at h
          ·rename_i x r _ e
           injection h with h; subst h
           simp [ihl _ e]
          ·simp at h
       exact this l ts hr
      have e : deepT (closedT (.mk 3 ts)) left = ts.all (fun t => deepT (closedT t) (left - 1)) := by
       rw [closedT_mk, if_neg (by decide), deepT_mk]
       simp [h0', hlen, h3, List.all_map, Function.comp_def]
      simp only [Option.map_some, cutT, e]
      cases ts.all (fun t => deepT (closedT t) (left - 1)) <;> simp
   have h3' : (k = 3 ∧ n = 0 ∧ 2 ≤ l.length ∧ l.length ≤ 4) = False := by simpa using h3
   simp only [h3', if_false]
   by_cases h4 : k = 4 ∧ n = 0 ∧ l.length ≤ 32
   ·obtain ⟨rfl, rfl, h5⟩ := h4
    by_cases hl1 : left = 1
    ·subst hl1
     simp only [h5, ne_eq, not_true, and_false, if_false, and_self, if_true]
     cases l with
     | nil =>
       rw [foldS]
       simp only [Option.map_some, cutT]
       rw [if_neg]
       rw [closedT_mk, if_neg (by decide), deepT_mk]
       simp [closedT_mk, deepT_low]
     | cons a l =>
       rw [foldS]
       have : shapeT a (1 - 1) = none := by cases a; rw [shapeT_mk]; simp
       rw [this]; simp [cutT]
    ·simp only [h5, ne_eq, hl1, not_false_eq_true, and_self, if_true]
     have hF : ∀ (l : List Tr) (acc : Ty), (∀ x ∈ l, ∀ left, openT x left = cutT left (shapeT x left)) → deepT (closedT acc) (left - 1) = true → foldO acc l (left - 1) = cutT (left - 1) (foldS acc l (left - 1)) := by
      intro l
      induction l with
      | nil => intro acc _ hd; simp [foldO, foldS, cutT, hd]
      | cons a l ihl =>
        intro acc h hd
        rw [foldO, foldS, h a (by simp)]
        cases hs : shapeT a (left - 1) with
        | none => simp [cutT]
        | some s =>
          simp only [cutT]
          cases hds : deepT (closedT s) (left - 1) with
          | true =>
            simp only [if_true]
            cases hj : joinT acc s with
            | none => rfl
            | some y =>
              have := ihl y (fun x hx => h x (by simp [hx])) (by rw [join_deep hj, hd, hds]; rfl)
              simpa [cutT] using this
          | false =>
            simp only [Bool.false_eq_true, if_false]
            cases hj : joinT acc s with
            | none => rfl
            | some y =>
              have hy : deepT (closedT y) (left - 1) = false := by rw [join_deep hj, hds]; simp
              simp only
              cases hf : foldS y l (left - 1) with
              | none => rfl
              | some t => simp [fold_deep hf hy]
     have hd0 : deepT (closedT (.mk 0 [])) (left - 1) = true := by
      rw [closedT_mk, if_pos rfl, deepT_mk]; simp; omega
     rw [hF l _ (fun x hx => ih x hx) hd0]
     cases hf : foldS (.mk 0 []) l (left - 1) with
     | none => simp [cutT]
     | some t =>
       have e : deepT (closedT (.mk 4 [t])) left = deepT (closedT t) (left - 1) := by
        rw [closedT_mk, if_neg (by decide), deepT_mk]; simp [h0']
       simp only [Option.map_some, cutT, e]
       cases deepT (closedT t) (left - 1) <;> simp
   ·have h4' : (k = 4 ∧ n = 0 ∧ l.length ≤ 32) = False := by simpa using h4
    have h4'' : (k = 4 ∧ n = 0 ∧ l.length ≤ 32 ∧ left ≠ 1) = False := by
     simp only [eq_iff_iff, iff_false]; rintro ⟨a, b, c, _⟩; exact h4 ⟨a, b, c⟩
    simp only [h4', h4'', if_false, cutT]
def rightT (a : Tr) : Bool := decide (cntT a ≤ 1000) && (openT a 40).isSome
theorem rightT_shape (a : Tr) : rightT a = (match shapeT a 40 with | some t => deepT (closedT t) 40 && decide (cntT a ≤ 1000) | none => false) := by
 unfold rightT
 rw [open_shape]
 cases shapeT a 40 with
 | none => simp [cutT]
 | some t => simp only [cutT]; cases deepT (closedT t) 40 <;> simp
theorem openL_step {l : List Tr} {i : Nat} {left : Int} (hi : i < l.length) : openL (l.drop i) left = match openT l[i] left, openL (l.drop (i + 1)) left with | some x, some r => some (x :: r) | _, _ => none := by
 rw [List.drop_eq_getElem_cons hi, openL]
theorem openL_end {l : List Tr} {i : Nat} {left : Int} (hi : l.length ≤ i) : openL (l.drop i) left = some [] := by
 rw [List.drop_eq_nil_of_le hi, openL]
theorem foldO_step {l : List Tr} {i : Nat} {left : Int} {acc : Ty} (hi : i < l.length) : foldO acc (l.drop i) left = match openT l[i] left with | some x => (match joinT acc x with | some y => foldO y (l.drop (i + 1)) left | none => none) | none => none := by
 rw [List.drop_eq_getElem_cons hi, foldO]
theorem foldO_end {l : List Tr} {i : Nat} {left : Int} {acc : Ty} (hi : l.length ≤ i) : foldO acc (l.drop i) left = some acc := by
 rw [List.drop_eq_nil_of_le hi, foldO]
theorem openT_ok {a : Tr} {left : Int} {t : Ty} (h : openT a left = some t) : t.Ok := by
 rw [open_shape] at h
 cases hs : shapeT a left with
 | none => rw [hs] at h; simp [cutT] at h
 | some s =>
   rw [hs] at h
   simp only [cutT] at h
   split at h
   ·injection h with h; subst h; exact shapeT_ok hs
   ·simp at h
theorem closedT_ok : ∀ {t : Ty}, t.Ok → (closedT t).Ok := by
 intro t
 induction t using Ty.ind with
 | h k l ih =>
   intro h
   cases h with
   | mk hl hc =>
   rw [closedT_mk]
   split
   ·exact .mk (by simp) (by simp)
   ·refine .mk (by simpa using hl) (fun x hx => ?_)
    simp at hx
    obtain ⟨y, hy, rfl⟩ := hx
    exact ih y hy (hc y hy)
theorem cntL_len (l : List Tr) : l.length ≤ cntL l := by
 induction l with
 | nil => simp
 | cons a l ih => have := cntT_pos a; simp only [List.length_cons, cntL]; omega
theorem cntT_le {l : List Tr} {x : Tr} (h : x ∈ l) : cntT x ≤ cntL l := by
 induction l with
 | nil => simp at h
 | cons a l ih =>
   simp only [cntL]
   rcases List.mem_cons.1 h with rfl | h
   ·omega
   ·have := ih h; omega
end Go.Proofs.YtipbefckimdkkaaGreat.E

namespace Go.Proofs.YtipbefckimdkkaaGreat.E
set_option linter.unusedSimpArgs false
set_option linter.unusedVariables false
theorem cmpI_neg (a b : Int) : cmpI b a = -cmpI a b := by unfold cmpI; split <;> split <;> omega
theorem orI_neg {a b c d : Int} (h : c = -a) (k : d = -b) : orI c d = -orI a b := by unfold orI; split <;> split <;> omega
theorem orI_lt {a b : Int} : orI a b < 0 ↔ a < 0 ∨ (a = 0 ∧ b < 0) := by unfold orI; split <;> omega
theorem cmpI_lt {a b : Int} : cmpI a b < 0 ↔ a < b := by unfold cmpI; split; omega; split <;> omega
theorem cmpT_neg : ∀ (a b : Tr), cmpT b a = -cmpT a b := by
 intro a
 induction a using Tr.ind with
 | h k n l ih =>
   intro b
   cases b with
   | mk k' n' l' =>
     rw [cmpT_mk, cmpT_mk]
     have hl : cmpL l' l = -cmpL l l' := by
      clear k n k' n'
      induction l generalizing l' with
      | nil => cases l' <;> simp [cmpL]
      | cons a l ihl =>
        cases l' with
        | nil => simp [cmpL]
        | cons b l' =>
          rw [cmpL, cmpL]
          exact orI_neg (ih a (by simp) b) (ihl (fun x hx => ih x (by simp [hx])) l')
     exact orI_neg (cmpI_neg k k') (orI_neg (cmpI_neg n n') hl)
theorem cmpT_trans : ∀ {a b c : Tr}, cmpT a b < 0 → cmpT b c < 0 → cmpT a c < 0 := by
 intro a
 induction a using Tr.ind with
 | h k n l ih =>
   intro b c
   cases b with
   | mk k' n' l' =>
     cases c with
     | mk k'' n'' l'' =>
       have hl : cmpL l l' < 0 → cmpL l' l'' < 0 → cmpL l l'' < 0 := by
        clear k n k' n' k'' n''
        induction l generalizing l' l'' with
        | nil => cases l' <;> cases l'' <;> simp [cmpL]
        | cons a l ihl =>
          cases l' with
          | nil => simp [cmpL]
          | cons b l' =>
            cases l'' with
            | nil => simp [cmpL]
            | cons c l'' =>
              rw [cmpL, cmpL, cmpL, orI_lt, orI_lt, orI_lt]
              rintro (h | ⟨h, h2⟩) (k | ⟨k, k2⟩)
              ·exact .inl (ih a (by simp) h k)
              ·rw [cmpT_zero] at k; subst k; exact .inl h
              ·rw [cmpT_zero] at h; subst h; exact .inl k
              ·rw [cmpT_zero] at h k; subst h; subst k
               exact .inr ⟨(cmpT_zero _ _).2 rfl, ihl (fun x hx => ih x (by simp [hx])) _ _ h2 k2⟩
       rw [cmpT_mk, cmpT_mk, cmpT_mk]
       simp only [orI_lt, orI_zero, cmpI_lt, cmpI_zero]
       rintro (h | ⟨h, h2 | ⟨h2, h3⟩⟩) (k | ⟨k, k2 | ⟨k2, k3⟩⟩)
       all_goals first | (left; omega) | (right; exact ⟨by omega, .inl (by omega)⟩) | (right; exact ⟨by omega, .inr ⟨by omega, hl h3 k3⟩⟩)
instance : DecidableEq Tr := fun a b => decidable_of_iff (cmpT a b = 0) (cmpT_zero a b)
end Go.Proofs.YtipbefckimdkkaaGreat.E
