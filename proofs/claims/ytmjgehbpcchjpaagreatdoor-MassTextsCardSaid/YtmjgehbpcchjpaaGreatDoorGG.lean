set_option linter.unusedVariables false
set_option linter.unusedSimpArgs false
namespace Go.Proofs.YtmjgehbpcchjpaaGreatDoor.E
inductive Tr where
 | mk (k n : Int) (l : List Tr)
def Tr.k : Tr → Int | .mk k _ _ => k
def Tr.n : Tr → Int | .mk _ n _ => n
def Tr.l : Tr → List Tr | .mk _ _ l => l
theorem Tr.ind {p : Tr → Prop} (h : ∀ k n l, (∀ x ∈ l, p x) → p (.mk k n l)) : ∀ t, p t
 | .mk k n l => h k n l fun x hx => Tr.ind h x
inductive Tr.Ok : Tr → Prop
 | mk {k n : Int} {l : List Tr} (hk : -9223372036854775808 ≤ k ∧ k < 9223372036854775808) (hn : -9223372036854775808 ≤ n ∧ n < 9223372036854775808) (hl : l.length < 9223372036854775808) (h : ∀ x ∈ l, x.Ok) : Tr.Ok (.mk k n l)
def cmpI (a b : Int) : Int := if a < b then -1 else if b < a then 1 else 0
def orI (a b : Int) : Int := if a = 0 then b else a
mutual
def cmpT : Tr → Tr → Int
 | .mk k n l, .mk k' n' l' => orI (cmpI k k') (orI (cmpI n n') (cmpL l l'))
def cmpL : List Tr → List Tr → Int
 | [], [] => 0
 | [], _ :: _ => -1
 | _ :: _, [] => 1
 | a :: l, b :: m => orI (cmpT a b) (cmpL l m)
end
theorem cmpT_mk (k n l k' n' l') : cmpT (.mk k n l) (.mk k' n' l') = orI (cmpI k k') (orI (cmpI n n') (cmpL l l')) := by rw [cmpT]
theorem cmpI_zero {a b : Int} : cmpI a b = 0 ↔ a = b := by unfold cmpI; split; omega; split <;> omega
theorem orI_zero {a b : Int} : orI a b = 0 ↔ a = 0 ∧ b = 0 := by unfold orI; split <;> simp_all
theorem cmpL_step {l m : List Tr} {i : Nat} (hi : i < l.length) (hm : i < m.length) : cmpL (l.drop i) (m.drop i) = orI (cmpT l[i] m[i]) (cmpL (l.drop (i + 1)) (m.drop (i + 1))) := by
 rw [List.drop_eq_getElem_cons hi, List.drop_eq_getElem_cons hm, cmpL]
theorem cmpT_zero : ∀ (a b : Tr), cmpT a b = 0 ↔ a = b := by
 intro a
 induction a using Tr.ind with
 | h k n l ih =>
   intro b
   cases b with
   | mk k' n' l' =>
     rw [cmpT_mk, orI_zero, orI_zero, cmpI_zero, cmpI_zero]
     have hl : cmpL l l' = 0 ↔ l = l' := by
      clear k n k' n'
      induction l generalizing l' with
      | nil => cases l' <;> simp [cmpL]
      | cons a l ihl =>
        cases l' with
        | nil => simp [cmpL]
        | cons b l' =>
          rw [cmpL, orI_zero, ih a (by simp), ihl (fun x hx => ih x (by simp [hx]))]
          simp
     rw [hl]
     simp
theorem cmpT_self (a : Tr) : cmpT a a = 0 := (cmpT_zero a a).2 rfl
mutual
/-- How many nodes. -/
def cntT : Tr → Nat
 | .mk _ _ l => cntL l + 1
def cntL : List Tr → Nat
 | [] => 0
 | a :: l => cntT a + cntL l
end
theorem cntT_mk (k n l) : cntT (.mk k n l) = cntL l + 1 := by rw [cntT]
theorem cntL_append (l m : List Tr) : cntL (l ++ m) = cntL l + cntL m := by
 induction l with
 | nil => simp [cntL]
 | cons a l ih => simp only [List.cons_append, cntL, ih]; omega
theorem cntL_take {l : List Tr} {i : Nat} (h : i < l.length) : cntL (l.take (i + 1)) = cntL (l.take i) + cntT l[i] := by
 rw [List.take_succ_eq_append_getElem h, cntL_append]; simp [cntL]
theorem cntL_split (l : List Tr) (i : Nat) : cntL l = cntL (l.take i) + cntL (l.drop i) := by
 rw [← cntL_append, List.take_append_drop]
theorem cntT_pos (a : Tr) : 0 < cntT a := by cases a; rw [cntT_mk]; omega
end Go.Proofs.YtmjgehbpcchjpaaGreatDoor.E

set_option linter.unusedVariables false
set_option linter.unusedSimpArgs false
namespace Go.Proofs.YtmjgehbpcchjpaaGreatDoor.E
inductive Ty where
 | mk (k : Int) (l : List Ty)
def Ty.k : Ty → Int | .mk k _ => k
def Ty.l : Ty → List Ty | .mk _ l => l
theorem Ty.ind {p : Ty → Prop} (h : ∀ k l, (∀ x ∈ l, p x) → p (.mk k l)) : ∀ t, p t
 | .mk k l => h k l fun x hx => Ty.ind h x
inductive Ty.Ok : Ty → Prop
 | mk {k : Int} {l : List Ty} (hl : l.length ≤ 4) (h : ∀ x ∈ l, x.Ok) : Ty.Ok (.mk k l)
mutual
def joinT : Ty → Ty → Option Ty
 | .mk k l, .mk k' l' => if k = 0 then some (.mk k' l') else if k' = 0 then some (.mk k l) else if k ≠ k' ∨ l.length ≠ l'.length then none else (joinL l l').map (.mk k)
def joinL : List Ty → List Ty → Option (List Ty)
 | a :: l, b :: m => match joinT a b, joinL l m with
   | some x, some r => some (x :: r)
   | _, _ => none
 | _, _ => some []
end
end Go.Proofs.YtmjgehbpcchjpaaGreatDoor.E

set_option linter.unusedVariables false
set_option linter.unusedSimpArgs false
namespace Go.Proofs.YtmjgehbpcchjpaaGreatDoor.E
end Go.Proofs.YtmjgehbpcchjpaaGreatDoor.E

set_option linter.unusedVariables false
set_option linter.unusedSimpArgs false
namespace Go.Proofs.YtmjgehbpcchjpaaGreatDoor.E
theorem cntL_len (l : List Tr) : l.length ≤ cntL l := by
 induction l with
 | nil => simp
 | cons a l ih => have := cntT_pos a; simp only [List.length_cons, cntL]; omega
theorem cntT_le {l : List Tr} {x : Tr} (h : x ∈ l) : cntT x ≤ cntL l := by
 induction l with
 | nil => simp at h
 | cons a l ih =>
   simp only [cntL]
   rcases List.mem_cons.1 h with rfl | h
   ·omega
   ·have := ih h; omega
end Go.Proofs.YtmjgehbpcchjpaaGreatDoor.E

namespace Go.Proofs.YtmjgehbpcchjpaaGreatDoor.E
set_option linter.unusedSimpArgs false
set_option linter.unusedVariables false
theorem cmpI_neg (a b : Int) : cmpI b a = -cmpI a b := by unfold cmpI; split <;> split <;> omega
theorem orI_neg {a b c d : Int} (h : c = -a) (k : d = -b) : orI c d = -orI a b := by unfold orI; split <;> split <;> omega
theorem orI_lt {a b : Int} : orI a b < 0 ↔ a < 0 ∨ (a = 0 ∧ b < 0) := by unfold orI; split <;> omega
theorem cmpI_lt {a b : Int} : cmpI a b < 0 ↔ a < b := by unfold cmpI; split; omega; split <;> omega
theorem cmpT_neg : ∀ (a b : Tr), cmpT b a = -cmpT a b := by
 intro a
 induction a using Tr.ind with
 | h k n l ih =>
   intro b
   cases b with
   | mk k' n' l' =>
     rw [cmpT_mk, cmpT_mk]
     have hl : cmpL l' l = -cmpL l l' := by
      clear k n k' n'
      induction l generalizing l' with
      | nil => cases l' <;> simp [cmpL]
      | cons a l ihl =>
        cases l' with
        | nil => simp [cmpL]
        | cons b l' =>
          rw [cmpL, cmpL]
          exact orI_neg (ih a (by simp) b) (ihl (fun x hx => ih x (by simp [hx])) l')
     exact orI_neg (cmpI_neg k k') (orI_neg (cmpI_neg n n') hl)
theorem cmpT_trans : ∀ {a b c : Tr}, cmpT a b < 0 → cmpT b c < 0 → cmpT a c < 0 := by
 intro a
 induction a using Tr.ind with
 | h k n l ih =>
   intro b c
   cases b with
   | mk k' n' l' =>
     cases c with
     | mk k'' n'' l'' =>
       have hl : cmpL l l' < 0 → cmpL l' l'' < 0 → cmpL l l'' < 0 := by
        clear k n k' n' k'' n''
        induction l generalizing l' l'' with
        | nil => cases l' <;> cases l'' <;> simp [cmpL]
        | cons a l ihl =>
          cases l' with
          | nil => simp [cmpL]
          | cons b l' =>
            cases l'' with
            | nil => simp [cmpL]
            | cons c l'' =>
              rw [cmpL, cmpL, cmpL, orI_lt, orI_lt, orI_lt]
              rintro (h | ⟨h, h2⟩) (k | ⟨k, k2⟩)
              ·exact .inl (ih a (by simp) h k)
              ·rw [cmpT_zero] at k; subst k; exact .inl h
              ·rw [cmpT_zero] at h; subst h; exact .inl k
              ·rw [cmpT_zero] at h k; subst h; subst k
               exact .inr ⟨(cmpT_zero _ _).2 rfl, ihl (fun x hx => ih x (by simp [hx])) _ _ h2 k2⟩
       rw [cmpT_mk, cmpT_mk, cmpT_mk]
       simp only [orI_lt, orI_zero, cmpI_lt, cmpI_zero]
       rintro (h | ⟨h, h2 | ⟨h2, h3⟩⟩) (k | ⟨k, k2 | ⟨k2, k3⟩⟩)
       all_goals first | (left; omega) | (right; exact ⟨by omega, .inl (by omega)⟩) | (right; exact ⟨by omega, .inr ⟨by omega, hl h3 k3⟩⟩)
instance : DecidableEq Tr := fun a b => decidable_of_iff (cmpT a b = 0) (cmpT_zero a b)
end Go.Proofs.YtmjgehbpcchjpaaGreatDoor.E
