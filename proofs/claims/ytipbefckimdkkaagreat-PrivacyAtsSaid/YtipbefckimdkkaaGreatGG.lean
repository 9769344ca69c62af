/- Joined texts: DV, DT, DS, DS2, DO. -/
set_option linter.unusedVariables false
set_option linter.unusedSimpArgs false
namespace Go.Proofs.YtipbefckimdkkaaGreat.E
inductive Tr where
  | mk (k n : Int) (l : List Tr)
def Tr.k : Tr → Int | .mk k _ _ => k
def Tr.n : Tr → Int | .mk _ n _ => n
def Tr.l : Tr → List Tr | .mk _ _ l => l
theorem Tr.ind {p : Tr → Prop} (h : ∀ k n l, (∀ x ∈ l, p x) → p (.mk k n l)) : ∀ t, p t
  | .mk k n l => h k n l fun x hx => Tr.ind h x
inductive Tr.Ok : Tr → Prop
  | mk {k n : Int} {l : List Tr} (hk : -9223372036854775808 ≤ k ∧ k < 9223372036854775808) (hn : -9223372036854775808 ≤ n ∧ n < 9223372036854775808) (hl : l.length < 9223372036854775808) (h : ∀ x ∈ l, x.Ok) : Tr.Ok (.mk k n l)
def cmpI (a b : Int) : Int := if a < b then -1 else if b < a then 1 else 0
def orI (a b : Int) : Int := if a = 0 then b else a
mutual
def cmpT : Tr → Tr → Int
  | .mk k n l, .mk k' n' l' => orI (cmpI k k') (orI (cmpI n n') (cmpL l l'))
def cmpL : List Tr → List Tr → Int
  | [], [] => 0
  | [], _ :: _ => -1
  | _ :: _, [] => 1
  | a :: l, b :: m => orI (cmpT a b) (cmpL l m)
end
theorem cmpT_mk (k n l k' n' l') : cmpT (.mk k n l) (.mk k' n' l') = orI (cmpI k k') (orI (cmpI n n') (cmpL l l')) := by rw [cmpT]
theorem cmpI_zero {a b : Int} : cmpI a b = 0 ↔ a = b := by unfold cmpI; split; omega; split <;> omega
theorem orI_zero {a b : Int} : orI a b = 0 ↔ a = 0 ∧ b = 0 := by unfold orI; split <;> simp_all
theorem cmpT_zero : ∀ (a b : Tr), cmpT a b = 0 ↔ a = b := by
  intro a
  induction a using Tr.ind with
  | h k n l ih =>
    intro b
    cases b with
    | mk k' n' l' =>
      rw [cmpT_mk, orI_zero, orI_zero, cmpI_zero, cmpI_zero]
      have hl : cmpL l l' = 0 ↔ l = l' := by
        clear k n k' n'
        induction l generalizing l' with
        | nil => cases l' <;> simp [cmpL]
        | cons a l ihl =>
          cases l' with
          | nil => simp [cmpL]
          | cons b l' =>
            rw [cmpL, orI_zero, ih a (by simp), ihl (fun x hx => ih x (by simp [hx]))]
            simp
      rw [hl]
      simp
mutual
/-- How many nodes. -/
def cntT : Tr → Nat
  | .mk _ _ l => cntL l + 1
def cntL : List Tr → Nat
  | [] => 0
  | a :: l => cntT a + cntL l
end
end Go.Proofs.YtipbefckimdkkaaGreat.E

set_option linter.unusedVariables false
set_option linter.unusedSimpArgs false
namespace Go.Proofs.YtipbefckimdkkaaGreat.E
inductive Ty where
  | mk (k : Int) (l : List Ty)
def Ty.k : Ty → Int | .mk k _ => k
def Ty.l : Ty → List Ty | .mk _ l => l
theorem Ty.ind {p : Ty → Prop} (h : ∀ k l, (∀ x ∈ l, p x) → p (.mk k l)) : ∀ t, p t
  | .mk k l => h k l fun x hx => Ty.ind h x
inductive Ty.Ok : Ty → Prop
  | mk {k : Int} {l : List Ty} (hl : l.length ≤ 4) (h : ∀ x ∈ l, x.Ok) : Ty.Ok (.mk k l)
mutual
def joinT : Ty → Ty → Option Ty
  | .mk k l, .mk k' l' => if k = 0 then some (.mk k' l') else if k' = 0 then some (.mk k l) else if k ≠ k' ∨ l.length ≠ l'.length then none else (joinL l l').map (.mk k)
def joinL : List Ty → List Ty → Option (List Ty)
  | a :: l, b :: m => match joinT a b, joinL l m with
    | some x, some r => some (x :: r)
    | _, _ => none
  | _, _ => some []
end
end Go.Proofs.YtipbefckimdkkaaGreat.E

set_option linter.unusedVariables false
set_option linter.unusedSimpArgs false
namespace Go.Proofs.YtipbefckimdkkaaGreat.E
def leafOK (k n : Int) (l : List Tr) : Bool := (if k = 1 then decide (n = 0 ∨ n = 1) else decide (-2147483648 ≤ n) && decide (n ≤ 2147483647)) && decide (l.length = 0)
end Go.Proofs.YtipbefckimdkkaaGreat.E

set_option linter.unusedVariables false
set_option linter.unusedSimpArgs false
namespace Go.Proofs.YtipbefckimdkkaaGreat.E
mutual
/-- The type of a value; a list may not stand at the deepest place. -/
def openT : Tr → Int → Option Ty
  | .mk k n l, left =>
    if left < 1 then none
    else if k = 1 ∨ k = 2 then (if leafOK k n l then some (.mk k []) else none)
    else if k = 3 ∧ n = 0 ∧ 2 ≤ l.length ∧ l.length ≤ 4 then (openL l (left - 1)).map (.mk k)
    else if k = 4 ∧ n = 0 ∧ l.length ≤ 32 ∧ left ≠ 1 then (foldO (.mk 0 []) l (left - 1)).map fun t => .mk k [t]
    else none
def openL : List Tr → Int → Option (List Ty)
  | [], _ => some []
  | a :: l, left => match openT a left, openL l left with
    | some x, some r => some (x :: r)
    | _, _ => none
def foldO : Ty → List Tr → Int → Option Ty
  | acc, [], _ => some acc
  | acc, a :: l, left => match openT a left with
    | some x => match joinT acc x with
      | some y => foldO y l left
      | none => none
    | none => none
end
def rightT (a : Tr) : Bool := decide (cntT a ≤ 1000) && (openT a 40).isSome
end Go.Proofs.YtipbefckimdkkaaGreat.E

namespace Go.Proofs.YtipbefckimdkkaaGreat.E
set_option linter.unusedSimpArgs false
set_option linter.unusedVariables false
theorem orI_lt {a b : Int} : orI a b < 0 ↔ a < 0 ∨ (a = 0 ∧ b < 0) := by unfold orI; split <;> omega
theorem cmpI_lt {a b : Int} : cmpI a b < 0 ↔ a < b := by unfold cmpI; split; omega; split <;> omega
theorem cmpT_trans : ∀ {a b c : Tr}, cmpT a b < 0 → cmpT b c < 0 → cmpT a c < 0 := by
  intro a
  induction a using Tr.ind with
  | h k n l ih =>
    intro b c
    cases b with
    | mk k' n' l' =>
      cases c with
      | mk k'' n'' l'' =>
        have hl : cmpL l l' < 0 → cmpL l' l'' < 0 → cmpL l l'' < 0 := by
          clear k n k' n' k'' n''
          induction l generalizing l' l'' with
          | nil => cases l' <;> cases l'' <;> simp [cmpL]
          | cons a l ihl =>
            cases l' with
            | nil => simp [cmpL]
            | cons b l' =>
              cases l'' with
              | nil => simp [cmpL]
              | cons c l'' =>
                rw [cmpL, cmpL, cmpL, orI_lt, orI_lt, orI_lt]
                rintro (h | ⟨h, h2⟩) (k | ⟨k, k2⟩)
                · exact .inl (ih a (by simp) h k)
                · rw [cmpT_zero] at k; subst k; exact .inl h
                · rw [cmpT_zero] at h; subst h; exact .inl k
                · rw [cmpT_zero] at h k; subst h; subst k
                  exact .inr ⟨(cmpT_zero _ _).2 rfl, ihl (fun x hx => ih x (by simp [hx])) _ _ h2 k2⟩
        rw [cmpT_mk, cmpT_mk, cmpT_mk]
        simp only [orI_lt, orI_zero, cmpI_lt, cmpI_zero]
        rintro (h | ⟨h, h2 | ⟨h2, h3⟩⟩) (k | ⟨k, k2 | ⟨k2, k3⟩⟩)
        all_goals first | (left; omega) | (right; exact ⟨by omega, .inl (by omega)⟩) | (right; exact ⟨by omega, .inr ⟨by omega, hl h3 k3⟩⟩)
instance : DecidableEq Tr := fun a b => decidable_of_iff (cmpT a b = 0) (cmpT_zero a b)
end Go.Proofs.YtipbefckimdkkaaGreat.E
