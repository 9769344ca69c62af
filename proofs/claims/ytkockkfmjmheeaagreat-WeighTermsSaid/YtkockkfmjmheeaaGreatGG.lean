set_option linter.unusedVariables false
set_option linter.unusedSimpArgs false
namespace Go.Proofs.YtkockkfmjmheeaaGreat.E
inductive Tr where
 | mk (k n : Int) (l : List Tr)
def Tr.k : Tr → Int | .mk k _ _ => k
def Tr.n : Tr → Int | .mk _ n _ => n
def Tr.l : Tr → List Tr | .mk _ _ l => l
theorem Tr.ind {p : Tr → Prop} (h : ∀ k n l, (∀ x ∈ l, p x) → p (.mk k n l)) : ∀ t, p t
 | .mk k n l => h k n l fun x hx => Tr.ind h x
inductive Tr.Ok : Tr → Prop
 | mk {k n : Int} {l : List Tr} (hk : -9223372036854775808 ≤ k ∧ k < 9223372036854775808) (hn : -9223372036854775808 ≤ n ∧ n < 9223372036854775808) (hl : l.length < 9223372036854775808) (h : ∀ x ∈ l, x.Ok) : Tr.Ok (.mk k n l)
end Go.Proofs.YtkockkfmjmheeaaGreat.E

set_option linter.unusedVariables false
set_option linter.unusedSimpArgs false
namespace Go.Proofs.YtkockkfmjmheeaaGreat.E
inductive Ty where
 | mk (k : Int) (l : List Ty)
def Ty.k : Ty → Int | .mk k _ => k
def Ty.l : Ty → List Ty | .mk _ l => l
theorem Ty.ind {p : Ty → Prop} (h : ∀ k l, (∀ x ∈ l, p x) → p (.mk k l)) : ∀ t, p t
 | .mk k l => h k l fun x hx => Ty.ind h x
inductive Ty.Ok : Ty → Prop
 | mk {k : Int} {l : List Ty} (hl : l.length ≤ 4) (h : ∀ x ∈ l, x.Ok) : Ty.Ok (.mk k l)
end Go.Proofs.YtkockkfmjmheeaaGreat.E

set_option linter.unusedVariables false
set_option linter.unusedSimpArgs false
namespace Go.Proofs.YtkockkfmjmheeaaGreat.E
end Go.Proofs.YtkockkfmjmheeaaGreat.E

set_option linter.unusedVariables false
set_option linter.unusedSimpArgs false
namespace Go.Proofs.YtkockkfmjmheeaaGreat.E
end Go.Proofs.YtkockkfmjmheeaaGreat.E
