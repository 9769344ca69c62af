set_option linter.unusedVariables false
set_option linter.unusedSimpArgs false
namespace Go.Proofs.YtmjgehbpcchjpaaGreatDoor.E
inductive Tr where
 | mk (k n : Int) (l : List Tr)
def Tr.k : Tr → Int | .mk k _ _ => k
def Tr.n : Tr → Int | .mk _ n _ => n
def Tr.l : Tr → List Tr | .mk _ _ l => l
theorem Tr.ind {p : Tr → Prop} (h : ∀ k n l, (∀ x ∈ l, p x) → p (.mk k n l)) : ∀ t, p t
 | .mk k n l => h k n l fun x hx => Tr.ind h x
inductive Tr.Ok : Tr → Prop
 | mk {k n : Int} {l : List Tr} (hk : -9223372036854775808 ≤ k ∧ k < 9223372036854775808) (hn : -9223372036854775808 ≤ n ∧ n < 9223372036854775808) (hl : l.length < 9223372036854775808) (h : ∀ x ∈ l, x.Ok) : Tr.Ok (.mk k n l)
def dj (a b : Int) : Int := if a < b then -1 else if b < a then 1 else 0
def orI (a b : Int) : Int := if a = 0 then b else a
mutual
def bx : Tr → Tr → Int
 | .mk k n l, .mk k' n' l' => orI (dj k k') (orI (dj n n') (cP l l'))
def cP : List Tr → List Tr → Int
 | [], [] => 0
 | [], _ :: _ => -1
 | _ :: _, [] => 1
 | a :: l, b :: m => orI (bx a b) (cP l m)
end
theorem fR (k n l k' n' l') : bx (.mk k n l) (.mk k' n' l') = orI (dj k k') (orI (dj n n') (cP l l')) := by rw [bx]
theorem kN {a b : Int} : dj a b = 0 ↔ a = b := by unfold dj; split; omega; split <;> omega
theorem kw {a b : Int} : orI a b = 0 ↔ a = 0 ∧ b = 0 := by unfold orI; split <;> simp_all
theorem oA {l m : List Tr} {i : Nat} (hi : i < l.length) (hm : i < m.length) : cP (l.drop i) (m.drop i) = orI (bx l[i] m[i]) (cP (l.drop (i + 1)) (m.drop (i + 1))) := by
 rw [List.drop_eq_getElem_cons hi, List.drop_eq_getElem_cons hm, cP]
theorem bV : ∀ (a b : Tr), bx a b = 0 ↔ a = b := by
 intro a
 induction a using Tr.ind with
 | h k n l ih =>
   intro b
   cases b with
   | mk k' n' l' =>
     rw [fR, kw, kw, kN, kN]
     have hl : cP l l' = 0 ↔ l = l' := by
      clear k n k' n'
      induction l generalizing l' with
      | nil => cases l' <;> simp [cP]
      | cons a l ihl =>
        cases l' with
        | nil => simp [cP]
        | cons b l' =>
          rw [cP, kw, ih a (by simp), ihl (fun x hx => ih x (by simp [hx]))]
          simp
     rw [hl]
     simp
theorem dA (a : Tr) : bx a a = 0 := (bV a a).2 rfl
mutual
/-- How many nodes. -/
def cB : Tr → Nat
 | .mk _ _ l => cE l + 1
def cE : List Tr → Nat
 | [] => 0
 | a :: l => cB a + cE l
end
theorem fS (k n l) : cB (.mk k n l) = cE l + 1 := by rw [cB]
theorem lO (l m : List Tr) : cE (l ++ m) = cE l + cE m := by
 induction l with
 | nil => simp [cE]
 | cons a l ih => simp only [List.cons_append, cE, ih]; omega
theorem iO {l : List Tr} {i : Nat} (h : i < l.length) : cE (l.take (i + 1)) = cE (l.take i) + cB l[i] := by
 rw [List.take_succ_eq_append_getElem h, lO]; simp [cE]
theorem jw (l : List Tr) (i : Nat) : cE l = cE (l.take i) + cE (l.drop i) := by
 rw [← lO, List.take_append_drop]
theorem qm (a : Tr) : 0 < cB a := by cases a; rw [fS]; omega
end Go.Proofs.YtmjgehbpcchjpaaGreatDoor.E

set_option linter.unusedVariables false
set_option linter.unusedSimpArgs false
namespace Go.Proofs.YtmjgehbpcchjpaaGreatDoor.E
inductive Ty where
 | mk (k : Int) (l : List Ty)
def Ty.k : Ty → Int | .mk k _ => k
def Ty.l : Ty → List Ty | .mk _ l => l
theorem Ty.ind {p : Ty → Prop} (h : ∀ k l, (∀ x ∈ l, p x) → p (.mk k l)) : ∀ t, p t
 | .mk k l => h k l fun x hx => Ty.ind h x
inductive Ty.Ok : Ty → Prop
 | mk {k : Int} {l : List Ty} (hl : l.length ≤ 4) (h : ∀ x ∈ l, x.Ok) : Ty.Ok (.mk k l)
def bb : Ty → Ty
 | .mk k l => if k = 0 then .mk 1 [] else .mk k (l.map fun x => bb x)
theorem bU (k : Int) (l : List Ty) : bb (.mk k l) = if k = 0 then .mk 1 [] else .mk k (l.map bb) := by rw [bb]
mutual
def di : Ty → Ty → Option Ty
 | .mk k l, .mk k' l' => if k = 0 then some (.mk k' l') else if k' = 0 then some (.mk k l) else if k ≠ k' ∨ l.length ≠ l'.length then none else (bM l l').map (.mk k)
def bM : List Ty → List Ty → Option (List Ty)
 | a :: l, b :: m => match di a b, bM l m with
   | some x, some r => some (x :: r)
   | _, _ => none
 | _, _ => some []
end
mutual
/-- Is a type right, and nested at most so deep? -/
def bz : Ty → Int → Bool
 | .mk k l, left => decide (1 ≤ left) && (if k = 1 ∨ k = 2 then decide (l.length = 0) else if k = 3 then decide (2 ≤ l.length) && decide (l.length ≤ 4) && oD l (left - 1) else if k = 4 then decide (l.length = 1) && oD l (left - 1) else false)
def oD : List Ty → Int → Bool
 | [], _ => true
 | a :: l, left => bz a left && oD l left
end
theorem tK (l : List Ty) (left : Int) : oD l left = l.all fun x => bz x left := by
 induction l with
 | nil => rw [oD]; rfl
 | cons a l ih => rw [oD, ih]; rfl
theorem dm (k : Int) (l : List Ty) (left : Int) : bz (.mk k l) left = (decide (1 ≤ left) && (if k = 1 ∨ k = 2 then decide (l.length = 0) else if k = 3 then decide (2 ≤ l.length) && decide (l.length ≤ 4) && l.all (fun x => bz x (left - 1)) else if k = 4 then decide (l.length = 1) && l.all (fun x => bz x (left - 1)) else false)) := by rw [bz, tK]
end Go.Proofs.YtmjgehbpcchjpaaGreatDoor.E

set_option linter.unusedVariables false
set_option linter.unusedSimpArgs false
namespace Go.Proofs.YtmjgehbpcchjpaaGreatDoor.E
def eC (k n : Int) (l : List Tr) : Bool := (if k = 1 then decide (n = 0 ∨ n = 1) else decide (-2147483648 ≤ n) && decide (n ≤ 2147483647)) && decide (l.length = 0)
mutual
/-- The type of a value, as far as it shows. -/
def cz : Tr → Int → Option Ty
 | .mk k n l, left =>
   if left < 1 then none
   else if k = 1 ∨ k = 2 then (if eC k n l then some (.mk k []) else none)
   else if k = 3 ∧ n = 0 ∧ 2 ≤ l.length ∧ l.length ≤ 4 then (cj l (left - 1)).map (.mk k)
   else if k = 4 ∧ n = 0 ∧ l.length ≤ 32 then (dh (.mk 0 []) l (left - 1)).map fun t => .mk k [t]
   else none
def cj : List Tr → Int → Option (List Ty)
 | [], _ => some []
 | a :: l, left => match cz a left, cj l left with
   | some x, some r => some (x :: r)
   | _, _ => none
def dh : Ty → List Tr → Int → Option Ty
 | acc, [], _ => some acc
 | acc, a :: l, left => match cz a left with
   | some x => match di acc x with
     | some y => dh y l left
     | none => none
   | none => none
end
theorem iZ (k n : Int) (l : List Tr) (left : Int) : cz (.mk k n l) left = if left < 1 then none
 else if k = 1 ∨ k = 2 then (if eC k n l then some (.mk k []) else none)
 else if k = 3 ∧ n = 0 ∧ 2 ≤ l.length ∧ l.length ≤ 4 then (cj l (left - 1)).map (.mk k)
 else if k = 4 ∧ n = 0 ∧ l.length ≤ 32 then (dh (.mk 0 []) l (left - 1)).map fun t => .mk k [t]
 else none := by rw [cz]
theorem ry {l : List Tr} {i : Nat} {left : Int} (hi : i < l.length) : cj (l.drop i) left = match cz l[i] left, cj (l.drop (i + 1)) left with | some x, some r => some (x :: r) | _, _ => none := by
 rw [List.drop_eq_getElem_cons hi, cj]
theorem sy {l : List Tr} {i : Nat} {left : Int} (hi : l.length ≤ i) : cj (l.drop i) left = some [] := by
 rw [List.drop_eq_nil_of_le hi, cj]
theorem r9 {l : List Tr} {i : Nat} {left : Int} {acc : Ty} (hi : i < l.length) : dh acc (l.drop i) left = match cz l[i] left with | some x => (match di acc x with | some y => dh y (l.drop (i + 1)) left | none => none) | none => none := by
 rw [List.drop_eq_getElem_cons hi, dh]
theorem tQ {l : List Tr} {i : Nat} {left : Int} {acc : Ty} (hi : l.length ≤ i) : dh acc (l.drop i) left = some acc := by
 rw [List.drop_eq_nil_of_le hi, dh]
theorem nh : ∀ {a b t : Ty}, a.Ok → b.Ok → di a b = some t → t.Ok := by
 intro a
 induction a using Ty.ind with
 | h k l ih =>
   intro b t ha hb h
   cases b with
   | mk k' l' =>
   rw [di] at h
   split at h
   ·injection h with h; subst h; exact hb
   split at h
   ·injection h with h; subst h; exact ha
   split at h
   ·simp at h
   ·rename_i hne
    cases ha with
    | mk hl hc =>
    cases hb with
    | mk hl' hc' =>
    have key : ∀ (l l' r : List Ty), (∀ x ∈ l, x.Ok) → (∀ x ∈ l, ∀ {b t : Ty}, x.Ok → b.Ok → di x b = some t → t.Ok) → (∀ x ∈ l', x.Ok) → bM l l' = some r → r.length ≤ l.length ∧ ∀ x ∈ r, x.Ok := by
     intro l
     induction l with
     | nil => intro l' r _ _ _ h; simp [bM] at h; subst h; simp
     | cons a l ihl =>
       intro l' r h1 h2 h3 h
       cases l' with
       | nil => simp [bM] at h; subst h; simp
       | cons b l' =>
         rw [bM] at h
         split at h
         ·rename_i x r' e1 e2
          injection h with h; subst h
          obtain ⟨g1, g2⟩ := ihl l' r' (fun x hx => h1 x (by simp [hx])) (fun x hx => h2 x (by simp [hx])) (fun x hx => h3 x (by simp [hx])) e2
          refine ⟨by simp; omega, fun y hy => ?_⟩
          rcases List.mem_cons.1 hy with rfl | hy
          ·exact h2 a (by simp) (h1 a (by simp)) (h3 b (by simp)) e1
          ·exact g2 y hy
         ·simp at h
    cases hj : bM l l' with
    | none => rw [hj] at h; simp at h
    | some r =>
      rw [hj] at h
      simp at h; subst h
      obtain ⟨g1, g2⟩ := key l l' r hc (fun x hx => ih x hx) hc' hj
      exact .mk (by omega) g2
theorem lr : ∀ {a : Tr} {left : Int} {t : Ty}, cz a left = some t → t.Ok := by
 intro a
 induction a using Tr.ind with
 | h k n l ih =>
   intro left t h
   rw [iZ] at h
   split at h
   ·simp at h
   split at h
   ·split at h
    ·injection h with h; subst h; exact .mk (by simp) (by simp)
    ·simp at h
   have kl : ∀ (l : List Tr) (r : List Ty), (∀ x ∈ l, ∀ {left : Int} {t : Ty}, cz x left = some t → t.Ok) → cj l (left - 1) = some r → r.length = l.length ∧ ∀ x ∈ r, x.Ok := by
    intro l
    induction l with
    | nil => intro r _ h; simp [cj] at h; subst h; simp
    | cons a l ihl =>
      intro r h1 h
      rw [cj] at h
      split at h
      ·rename_i x r' e1 e2
       injection h with h; subst h
       obtain ⟨g1, g2⟩ := ihl r' (fun x hx => h1 x (by simp [hx])) e2
       refine ⟨by simp [g1], fun y hy => ?_⟩
       rcases List.mem_cons.1 hy with rfl | hy
       ·exact h1 a (by simp) e1
       ·exact g2 y hy
      ·simp at h
   have kf : ∀ (l : List Tr) (acc r : Ty), acc.Ok → (∀ x ∈ l, ∀ {left : Int} {t : Ty}, cz x left = some t → t.Ok) → dh acc l (left - 1) = some r → r.Ok := by
    intro l
    induction l with
    | nil => intro acc r h0 _ h; simp [dh] at h; subst h; exact h0
    | cons a l ihl =>
      intro acc r h0 h1 h
      rw [dh] at h
      split at h
      ·rename_i x e1
       split at h
       ·rename_i y e2
        exact ihl y r (nh h0 (h1 a (by simp) e1) e2) (fun x hx => h1 x (by simp [hx])) h
       ·simp at h
      ·simp at h
   split at h
   ·rename_i hk
    cases hs : cj l (left - 1) with
    | none => rw [hs] at h; simp at h
    | some r =>
      rw [hs] at h
      simp at h; subst h
      obtain ⟨g1, g2⟩ := kl l r (fun x hx => ih x hx) hs
      exact .mk (by omega) g2
   split at h
   ·cases hs : dh (.mk 0 []) l (left - 1) with
    | none => rw [hs] at h; simp at h
    | some r =>
      rw [hs] at h
      simp at h; subst h
      exact .mk (by simp) (by simp; exact kf l _ r (.mk (by simp) (by simp)) (fun x hx => ih x hx) hs)
   ·simp at h
end Go.Proofs.YtmjgehbpcchjpaaGreatDoor.E

set_option linter.unusedVariables false
set_option linter.unusedSimpArgs false
namespace Go.Proofs.YtmjgehbpcchjpaaGreatDoor.E
mutual
/-- The type of a value; a list may not stand at the deepest place. -/
def eY : Tr → Int → Option Ty
 | .mk k n l, left =>
   if left < 1 then none
   else if k = 1 ∨ k = 2 then (if eC k n l then some (.mk k []) else none)
   else if k = 3 ∧ n = 0 ∧ 2 ≤ l.length ∧ l.length ≤ 4 then (fJ l (left - 1)).map (.mk k)
   else if k = 4 ∧ n = 0 ∧ l.length ≤ 32 ∧ left ≠ 1 then (gy (.mk 0 []) l (left - 1)).map fun t => .mk k [t]
   else none
def fJ : List Tr → Int → Option (List Ty)
 | [], _ => some []
 | a :: l, left => match eY a left, fJ l left with
   | some x, some r => some (x :: r)
   | _, _ => none
def gy : Ty → List Tr → Int → Option Ty
 | acc, [], _ => some acc
 | acc, a :: l, left => match eY a left with
   | some x => match di acc x with
     | some y => gy y l left
     | none => none
   | none => none
end
theorem rb (k n : Int) (l : List Tr) (left : Int) : eY (.mk k n l) left = if left < 1 then none
 else if k = 1 ∨ k = 2 then (if eC k n l then some (.mk k []) else none)
 else if k = 3 ∧ n = 0 ∧ 2 ≤ l.length ∧ l.length ≤ 4 then (fJ l (left - 1)).map (.mk k)
 else if k = 4 ∧ n = 0 ∧ l.length ≤ 32 ∧ left ≠ 1 then (gy (.mk 0 []) l (left - 1)).map fun t => .mk k [t]
 else none := by rw [eY]
theorem oE {t : Ty} {left : Int} (h : left < 1) : bz t left = false := by
 cases t; rw [dm]; simp; omega
theorem kU : ∀ {a b c : Ty}, di a b = some c → ∀ (left : Int), bz (bb c) left = (bz (bb a) left && bz (bb b) left) := by
 intro a
 induction a using Ty.ind with
 | h k l ih =>
   intro b c h left
   cases b with
   | mk k' l' =>
   by_cases hl : left < 1
   ·simp [oE hl]
   have hl' : 1 ≤ left := by omega
   have leaf : bz (.mk 1 []) left = true := by rw [dm]; simp [hl']
   rw [di] at h
   split at h
   ·rename_i h0
    injection h with h; subst h; subst h0
    have : bb (.mk 0 l) = .mk 1 [] := by rw [bU]; simp
    rw [this, leaf]; simp
   split at h
   ·rename_i h0
    injection h with h; subst h; subst h0
    have : bb (.mk 0 l') = .mk 1 [] := by rw [bU]; simp
    rw [this, leaf]; simp
   split at h
   ·simp at h
   ·rename_i h0 h0' hne
    have hk : k = k' := by
     by_cases e : k = k'
     ·exact e
     ·exact (hne (.inl e)).elim
    subst hk
    have hlen : l.length = l'.length := by
     by_cases e : l.length = l'.length
     ·exact e
     ·exact (hne (.inr e)).elim
    have key : ∀ (l l' r : List Ty) (left : Int), (∀ x ∈ l, ∀ {b c : Ty}, di x b = some c → ∀ (left : Int), bz (bb c) left = (bz (bb x) left && bz (bb b) left)) → l.length = l'.length → bM l l' = some r → r.length = l.length ∧ (r.map bb).all (fun x => bz x left) = ((l.map bb).all (fun x => bz x left) && (l'.map bb).all (fun x => bz x left)) := by
     intro l
     induction l with
     | nil => intro l' r left _ hlen h; cases l' with | nil => simp [bM] at h; subst h; simp | cons => simp at hlen
     | cons a l ihl =>
       intro l' r left h1 hlen h
       cases l' with
       | nil => simp at hlen
       | cons b l' =>
         rw [bM] at h
         split at h
         ·rename_i x r' e1 e2
          injection h with h; subst h
          obtain ⟨g1, g2⟩ := ihl l' r' left (fun x hx => h1 x (by simp [hx])) (by simpa using hlen) e2
          refine ⟨by simp [g1], ?_⟩
          simp only [List.map_cons, List.all_cons, g2, h1 a (by simp) e1 left]
          cases bz (bb a) left <;> cases bz (bb b) left <;> cases (List.map bb l).all (fun x => bz x left) <;> simp
         ·simp at h
    cases hj : bM l l' with
    | none => rw [hj] at h; simp at h
    | some r =>
      rw [hj] at h
      simp at h; subst h
      obtain ⟨g1, g2⟩ := key l l' r (left - 1) (fun x hx => ih x hx) hlen hj
      rw [bU, bU, bU, if_neg h0, if_neg h0, if_neg h0, dm, dm, dm]
      simp only [List.length_map, g1, ← hlen, g2]
      have e1 : decide (1 ≤ left) = true := by simpa using hl'
      rw [e1]
      generalize (List.map bb l).all (fun x => bz x (left - 1)) = A
      generalize (List.map bb l').all (fun x => bz x (left - 1)) = B
      by_cases k12 : k = 1 ∨ k = 2
      ·simp [k12]
      ·by_cases k3 : k = 3
       ·simp [k12, k3]; cases A <;> cases B <;> simp
       ·by_cases k4 : k = 4
        ·simp [k12, k3, k4]; cases A <;> cases B <;> simp
        ·simp [k12, k3, k4]
def fh (left : Int) : Option Ty → Option Ty
 | some t => if bz (bb t) left then some t else none
 | none => none
theorem oI : ∀ {l : List Tr} {acc t : Ty} {left : Int}, dh acc l left = some t → bz (bb acc) left = false → bz (bb t) left = false
 | [], acc, t, left, h, h0 => by rw [dh] at h; injection h with h; subst h; exact h0
 | a :: l, acc, t, left, h, h0 => by
   rw [dh] at h
   split at h
   ·split at h
    ·rename_i x _ y hy
     exact oI h (by rw [kU hy left, h0]; rfl)
    ·simp at h
   ·simp at h
theorem nr : ∀ (a : Tr) (left : Int), eY a left = fh left (cz a left) := by
 intro a
 induction a using Tr.ind with
 | h k n l ih =>
   intro left
   rw [rb, iZ]
   by_cases h0 : left < 1
   ·simp [h0, fh]
   have h0' : 1 ≤ left := by omega
   simp only [h0, if_false]
   by_cases h1 : k = 1 ∨ k = 2
   ·simp only [h1, if_true]
    cases eC k n l
    ·simp [fh]
    ·have k0 : ¬ k = 0 := by rcases h1 with h | h <;> omega
     have : bz (bb (.mk k [])) left = true := by
      rw [bU, if_neg k0, dm]; simp [h0', h1]
     simp [fh, this]
   simp only [h1, if_false]
   have hL : ∀ (l : List Tr), (∀ x ∈ l, ∀ left, eY x left = fh left (cz x left)) → ∀ left, fJ l left = match cj l left with | some ts => if ts.all (fun t => bz (bb t) left) then some ts else none | none => none := by
    intro l
    induction l with
    | nil => intro _ left; simp [fJ, cj]
    | cons a l ihl =>
      intro h left
      rw [fJ, cj, h a (by simp), ihl (fun x hx => h x (by simp [hx]))]
      cases hs : cz a left with
      | none => simp [fh]
      | some t =>
        cases hr : cj l left with
        | none => simp only [fh]; split <;> simp_all
        | some ts =>
          by_cases c1 : bz (bb t) left = true <;> by_cases c2 : ts.all (fun t => bz (bb t) left) = true <;> simp only [fh, List.all_cons, c1, c2, Bool.and_self, if_true, if_false, Bool.false_eq_true, Bool.and_false, Bool.false_and, Bool.true_and, Bool.and_true]
   by_cases h3 : k = 3 ∧ n = 0 ∧ 2 ≤ l.length ∧ l.length ≤ 4
   ·simp only [h3, and_self, if_true]
    rw [hL l (fun x hx => ih x hx)]
    cases hr : cj l (left - 1) with
    | none => simp [fh]
    | some ts =>
      have hlen : ts.length = l.length := by
       have : ∀ (l : List Tr) (ts : List Ty), cj l (left - 1) = some ts → ts.length = l.length := by
        intro l
        induction l with
        | nil => intro ts h; simp [cj] at h; subst h; rfl
        | cons a l ihl =>
          intro ts h
          rw [cj] at h
          split at h
          ·rename_i x r _ e
           injection h with h; subst h
           simp [ihl _ e]
          ·simp at h
       exact this l ts hr
      have e : bz (bb (.mk 3 ts)) left = ts.all (fun t => bz (bb t) (left - 1)) := by
       rw [bU, if_neg (by decide), dm]
       simp [h0', hlen, h3, List.all_map, Function.comp_def]
      simp only [Option.map_some, fh, e]
      cases ts.all (fun t => bz (bb t) (left - 1)) <;> simp
   have h3' : (k = 3 ∧ n = 0 ∧ 2 ≤ l.length ∧ l.length ≤ 4) = False := by simpa using h3
   simp only [h3', if_false]
   by_cases h4 : k = 4 ∧ n = 0 ∧ l.length ≤ 32
   ·obtain ⟨rfl, rfl, h5⟩ := h4
    by_cases hl1 : left = 1
    ·subst hl1
     simp only [h5, ne_eq, not_true, and_false, if_false, and_self, if_true]
     cases l with
     | nil =>
       rw [dh]
       simp only [Option.map_some, fh]
       rw [if_neg]
       rw [bU, if_neg (by decide), dm]
       simp [bU, oE]
     | cons a l =>
       rw [dh]
       have : cz a (1 - 1) = none := by cases a; rw [iZ]; simp
       rw [this]; simp [fh]
    ·simp only [h5, ne_eq, hl1, not_false_eq_true, and_self, if_true]
     have hF : ∀ (l : List Tr) (acc : Ty), (∀ x ∈ l, ∀ left, eY x left = fh left (cz x left)) → bz (bb acc) (left - 1) = true → gy acc l (left - 1) = fh (left - 1) (dh acc l (left - 1)) := by
      intro l
      induction l with
      | nil => intro acc _ hd; simp [gy, dh, fh, hd]
      | cons a l ihl =>
        intro acc h hd
        rw [gy, dh, h a (by simp)]
        cases hs : cz a (left - 1) with
        | none => simp [fh]
        | some s =>
          simp only [fh]
          cases hds : bz (bb s) (left - 1) with
          | true =>
            simp only [if_true]
            cases hj : di acc s with
            | none => rfl
            | some y =>
              have := ihl y (fun x hx => h x (by simp [hx])) (by rw [kU hj, hd, hds]; rfl)
              simpa [fh] using this
          | false =>
            simp only [Bool.false_eq_true, if_false]
            cases hj : di acc s with
            | none => rfl
            | some y =>
              have hy : bz (bb y) (left - 1) = false := by rw [kU hj, hds]; simp
              simp only
              cases hf : dh y l (left - 1) with
              | none => rfl
              | some t => simp [oI hf hy]
     have hd0 : bz (bb (.mk 0 [])) (left - 1) = true := by
      rw [bU, if_pos rfl, dm]; simp; omega
     rw [hF l _ (fun x hx => ih x hx) hd0]
     cases hf : dh (.mk 0 []) l (left - 1) with
     | none => simp [fh]
     | some t =>
       have e : bz (bb (.mk 4 [t])) left = bz (bb t) (left - 1) := by
        rw [bU, if_neg (by decide), dm]; simp [h0']
       simp only [Option.map_some, fh, e]
       cases bz (bb t) (left - 1) <;> simp
   ·have h4' : (k = 4 ∧ n = 0 ∧ l.length ≤ 32) = False := by simpa using h4
    have h4'' : (k = 4 ∧ n = 0 ∧ l.length ≤ 32 ∧ left ≠ 1) = False := by
     simp only [eq_iff_iff, iff_false]; rintro ⟨a, b, c, _⟩; exact h4 ⟨a, b, c⟩
    simp only [h4', h4'', if_false, fh]
def gk (a : Tr) : Bool := decide (cB a ≤ 1000) && (eY a 40).isSome
theorem pS (a : Tr) : gk a = (match cz a 40 with | some t => bz (bb t) 40 && decide (cB a ≤ 1000) | none => false) := by
 unfold gk
 rw [nr]
 cases cz a 40 with
 | none => simp [fh]
 | some t => simp only [fh]; cases bz (bb t) 40 <;> simp
theorem sn {l : List Tr} {i : Nat} {left : Int} (hi : i < l.length) : fJ (l.drop i) left = match eY l[i] left, fJ (l.drop (i + 1)) left with | some x, some r => some (x :: r) | _, _ => none := by
 rw [List.drop_eq_getElem_cons hi, fJ]
theorem ue {l : List Tr} {i : Nat} {left : Int} (hi : l.length ≤ i) : fJ (l.drop i) left = some [] := by
 rw [List.drop_eq_nil_of_le hi, fJ]
theorem r8 {l : List Tr} {i : Nat} {left : Int} {acc : Ty} (hi : i < l.length) : gy acc (l.drop i) left = match eY l[i] left with | some x => (match di acc x with | some y => gy y (l.drop (i + 1)) left | none => none) | none => none := by
 rw [List.drop_eq_getElem_cons hi, gy]
theorem tP {l : List Tr} {i : Nat} {left : Int} {acc : Ty} (hi : l.length ≤ i) : gy acc (l.drop i) left = some acc := by
 rw [List.drop_eq_nil_of_le hi, gy]
theorem openT_ok {a : Tr} {left : Int} {t : Ty} (h : eY a left = some t) : t.Ok := by
 rw [nr] at h
 cases hs : cz a left with
 | none => rw [hs] at h; simp [fh] at h
 | some s =>
   rw [hs] at h
   simp only [fh] at h
   split at h
   ·injection h with h; subst h; exact lr hs
   ·simp at h
theorem rV : ∀ {t : Ty}, t.Ok → (bb t).Ok := by
 intro t
 induction t using Ty.ind with
 | h k l ih =>
   intro h
   cases h with
   | mk hl hc =>
   rw [bU]
   split
   ·exact .mk (by simp) (by simp)
   ·refine .mk (by simpa using hl) (fun x hx => ?_)
    simp at hx
    obtain ⟨y, hy, rfl⟩ := hx
    exact ih y hy (hc y hy)
theorem mT (l : List Tr) : l.length ≤ cE l := by
 induction l with
 | nil => simp
 | cons a l ih => have := qm a; simp only [List.length_cons, cE]; omega
theorem mw {l : List Tr} {x : Tr} (h : x ∈ l) : cB x ≤ cE l := by
 induction l with
 | nil => simp at h
 | cons a l ih =>
   simp only [cE]
   rcases List.mem_cons.1 h with rfl | h
   ·omega
   ·have := ih h; omega
end Go.Proofs.YtmjgehbpcchjpaaGreatDoor.E

namespace Go.Proofs.YtmjgehbpcchjpaaGreatDoor.E
set_option linter.unusedSimpArgs false
set_option linter.unusedVariables false
theorem ql (a b : Int) : dj b a = -dj a b := by unfold dj; split <;> split <;> omega
theorem pP {a b c d : Int} (h : c = -a) (k : d = -b) : orI c d = -orI a b := by unfold orI; split <;> split <;> omega
theorem pO {a b : Int} : orI a b < 0 ↔ a < 0 ∨ (a = 0 ∧ b < 0) := by unfold orI; split <;> omega
theorem cmpI_lt {a b : Int} : dj a b < 0 ↔ a < b := by unfold dj; split; omega; split <;> omega
theorem dl : ∀ (a b : Tr), bx b a = -bx a b := by
 intro a
 induction a using Tr.ind with
 | h k n l ih =>
   intro b
   cases b with
   | mk k' n' l' =>
     rw [fR, fR]
     have hl : cP l' l = -cP l l' := by
      clear k n k' n'
      induction l generalizing l' with
      | nil => cases l' <;> simp [cP]
      | cons a l ihl =>
        cases l' with
        | nil => simp [cP]
        | cons b l' =>
          rw [cP, cP]
          exact pP (ih a (by simp) b) (ihl (fun x hx => ih x (by simp [hx])) l')
     exact pP (ql k k') (pP (ql n n') hl)
theorem dP : ∀ {a b c : Tr}, bx a b < 0 → bx b c < 0 → bx a c < 0 := by
 intro a
 induction a using Tr.ind with
 | h k n l ih =>
   intro b c
   cases b with
   | mk k' n' l' =>
     cases c with
     | mk k'' n'' l'' =>
       have hl : cP l l' < 0 → cP l' l'' < 0 → cP l l'' < 0 := by
        clear k n k' n' k'' n''
        induction l generalizing l' l'' with
        | nil => cases l' <;> cases l'' <;> simp [cP]
        | cons a l ihl =>
          cases l' with
          | nil => simp [cP]
          | cons b l' =>
            cases l'' with
            | nil => simp [cP]
            | cons c l'' =>
              rw [cP, cP, cP, pO, pO, pO]
              rintro (h | ⟨h, h2⟩) (k | ⟨k, k2⟩)
              ·exact .inl (ih a (by simp) h k)
              ·rw [bV] at k; subst k; exact .inl h
              ·rw [bV] at h; subst h; exact .inl k
              ·rw [bV] at h k; subst h; subst k
               exact .inr ⟨(bV _ _).2 rfl, ihl (fun x hx => ih x (by simp [hx])) _ _ h2 k2⟩
       rw [fR, fR, fR]
       simp only [pO, kw, cmpI_lt, kN]
       rintro (h | ⟨h, h2 | ⟨h2, h3⟩⟩) (k | ⟨k, k2 | ⟨k2, k3⟩⟩)
       all_goals first | (left; omega) | (right; exact ⟨by omega, .inl (by omega)⟩) | (right; exact ⟨by omega, .inr ⟨by omega, hl h3 k3⟩⟩)
instance : DecidableEq Tr := fun a b => decidable_of_iff (bx a b = 0) (bV a b)
end Go.Proofs.YtmjgehbpcchjpaaGreatDoor.E
