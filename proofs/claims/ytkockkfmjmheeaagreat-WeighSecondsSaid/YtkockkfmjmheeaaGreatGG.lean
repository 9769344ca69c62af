set_option linter.unusedVariables false
set_option linter.unusedSimpArgs false
namespace Go.Proofs.YtkockkfmjmheeaaGreat.E
inductive Tr where
 | mk (k n : Int) (l : List Tr)
def Tr.k : Tr → Int | .mk k _ _ => k
def Tr.n : Tr → Int | .mk _ n _ => n
def Tr.l : Tr → List Tr | .mk _ _ l => l
theorem Tr.ind {p : Tr → Prop} (h : ∀ k n l, (∀ x ∈ l, p x) → p (.mk k n l)) : ∀ t, p t
 | .mk k n l => h k n l fun x hx => Tr.ind h x
inductive Tr.Ok : Tr → Prop
 | mk {k n : Int} {l : List Tr} (hk : -9223372036854775808 ≤ k ∧ k < 9223372036854775808) (hn : -9223372036854775808 ≤ n ∧ n < 9223372036854775808) (hl : l.length < 9223372036854775808) (h : ∀ x ∈ l, x.Ok) : Tr.Ok (.mk k n l)
def cmpI (a b : Int) : Int := if a < b then -1 else if b < a then 1 else 0
def orI (a b : Int) : Int := if a = 0 then b else a
mutual
def cmpT : Tr → Tr → Int
 | .mk k n l, .mk k' n' l' => orI (cmpI k k') (orI (cmpI n n') (cmpL l l'))
def cmpL : List Tr → List Tr → Int
 | [], [] => 0
 | [], _ :: _ => -1
 | _ :: _, [] => 1
 | a :: l, b :: m => orI (cmpT a b) (cmpL l m)
end
theorem cmpT_mk (k n l k' n' l') : cmpT (.mk k n l) (.mk k' n' l') = orI (cmpI k k') (orI (cmpI n n') (cmpL l l')) := by rw [cmpT]
theorem cmpI_zero {a b : Int} : cmpI a b = 0 ↔ a = b := by unfold cmpI; split; omega; split <;> omega
theorem orI_zero {a b : Int} : orI a b = 0 ↔ a = 0 ∧ b = 0 := by unfold orI; split <;> simp_all
theorem cmpL_step {l m : List Tr} {i : Nat} (hi : i < l.length) (hm : i < m.length) : cmpL (l.drop i) (m.drop i) = orI (cmpT l[i] m[i]) (cmpL (l.drop (i + 1)) (m.drop (i + 1))) := by
 rw [List.drop_eq_getElem_cons hi, List.drop_eq_getElem_cons hm, cmpL]
theorem cmpT_zero : ∀ (a b : Tr), cmpT a b = 0 ↔ a = b := by
 intro a
 induction a using Tr.ind with
 | h k n l ih =>
   intro b
   cases b with
   | mk k' n' l' =>
     rw [cmpT_mk, orI_zero, orI_zero, cmpI_zero, cmpI_zero]
     have hl : cmpL l l' = 0 ↔ l = l' := by
      clear k n k' n'
      induction l generalizing l' with
      | nil => cases l' <;> simp [cmpL]
      | cons a l ihl =>
        cases l' with
        | nil => simp [cmpL]
        | cons b l' =>
          rw [cmpL, orI_zero, ih a (by simp), ihl (fun x hx => ih x (by simp [hx]))]
          simp
     rw [hl]
     simp
theorem cmpT_self (a : Tr) : cmpT a a = 0 := (cmpT_zero a a).2 rfl
end Go.Proofs.YtkockkfmjmheeaaGreat.E

set_option linter.unusedVariables false
set_option linter.unusedSimpArgs false
namespace Go.Proofs.YtkockkfmjmheeaaGreat.E
inductive Ty where
 | mk (k : Int) (l : List Ty)
def Ty.k : Ty → Int | .mk k _ => k
def Ty.l : Ty → List Ty | .mk _ l => l
theorem Ty.ind {p : Ty → Prop} (h : ∀ k l, (∀ x ∈ l, p x) → p (.mk k l)) : ∀ t, p t
 | .mk k l => h k l fun x hx => Ty.ind h x
inductive Ty.Ok : Ty → Prop
 | mk {k : Int} {l : List Ty} (hl : l.length ≤ 4) (h : ∀ x ∈ l, x.Ok) : Ty.Ok (.mk k l)
end Go.Proofs.YtkockkfmjmheeaaGreat.E

set_option linter.unusedVariables false
set_option linter.unusedSimpArgs false
namespace Go.Proofs.YtkockkfmjmheeaaGreat.E
end Go.Proofs.YtkockkfmjmheeaaGreat.E

set_option linter.unusedVariables false
set_option linter.unusedSimpArgs false
namespace Go.Proofs.YtkockkfmjmheeaaGreat.E
end Go.Proofs.YtkockkfmjmheeaaGreat.E

namespace Go.Proofs.YtkockkfmjmheeaaGreat.E
set_option linter.unusedSimpArgs false
set_option linter.unusedVariables false
instance : DecidableEq Tr := fun a b => decidable_of_iff (cmpT a b = 0) (cmpT_zero a b)
end Go.Proofs.YtkockkfmjmheeaaGreat.E
