import Derived.Test.YtipbefckimdkkaaGreatGS
import Derived.Test.YtipbefckimdkkaaGreatGL
import Derived.Test.YtipbefckimdkkaaGreatGC
import Derived.Test.YtipbefckimdkkaaGreatProg
import Derived.KernelRfl
import Derived.Test.YtipbefckimdkkaaGreatGD
import Derived.Test.YtipbefckimdkkaaGreatGQ
namespace Go.Proofs.YtipbefckimdkkaaGreat.F
open Go Go.Proofs Go.Proofs.YtipbefckimdkkaaGreat.E Go.Proofs.YtipbefckimdkkaaGreat.Q
abbrev ratio_Mul : Nat := 79
def ratio_Mul_c : MFn := ⟨21,(.seq (r [o 2 (.box (.t 0)),o 3 (.box (.t 1)),o 4 (.alloc zR)] [2,3,4]) (.seq (r [o 5 (.fA 0 (.t 2)),o 6 (.ld none (.t 5)),o 7 (.fA 0 (.t 3)),o 8 (.ld none (.t 7)),o 9 (.binB .neq (.t 6) (.t 8)),o 10 (.fA 1 (.t 2)),o 11 (.ld none (.t 10)),o 12 (.fA 1 (.t 3)),o 13 (.ld none (.t 12)),o 14 (.callF 110 [(.t 11),(.t 13)]),o 15 (.fA 2 (.t 2)),o 16 (.ld none (.t 15)),o 17 (.fA 2 (.t 3)),o 18 (.ld none (.t 17)),o 19 (.callF 110 [(.t 16),(.t 18)]),o 20 (.callF 112 [(.t 9),(.t 14),(.t 19)]),z (.st 3 (.t 4) (.t 20))] [4]) .ret)),[.cell 4 (some 3)]⟩
theorem ratio_Mul_ok : cFn Tryz.prog (kps [[2,3,4],[4]]) [] 79 = some ratio_Mul_c := by kernel_rfl
end Go.Proofs.YtipbefckimdkkaaGreat.F

namespace Go.Proofs.YtipbefckimdkkaaGreat
open Go Go.Proofs Go.Proofs.YtipbefckimdkkaaGreat.E
set_option linter.unusedSimpArgs false
set_option linter.unusedVariables false
theorem sumBy_nn {α : Type} {f : α → Rat} {l : List α} (h : ∀ x ∈ l, 0 ≤ f x) : 0 ≤ sumBy f l := by
 have := sumBy_le (f := fun _ : α => (0 : Rat)) (g := f) (l := l) h
 rwa [sumBy_zero] at this
theorem ratio_Mul {x y : Raw} (hx : x.Ok (2 ^ 31)) (hy : y.Ok (2 ^ 31)) : CallD Tryz.prog F.ratio_Mul [x.v, y.v] (· = ratV (x.q * y.q)) := by
 have e := Raw.mul_q hx hy
 have n1 := val_nonneg hx.dn
 have n2 := val_nonneg hx.dd
 have n3 := val_nonneg hy.dn
 have n4 := val_nonneg hy.dd
 have l1 := hx.ln
 have l2 := hx.ld
 have l3 := hy.ln
 have l4 := hy.ld
 have m1 := Int.mul_nonneg n1 n3
 have m3 := Int.mul_nonneg n2 n4
 have d1 := digs_mul_val hx.dn hy.dn
 have d3 := digs_mul_val hx.dd hy.dd
 refine callD_by F.ratio_Mul_ok ?_
 unfold F.ratio_Mul_c
 simp [Raw.v, setOb, List.filter_cons]
 refine callFK_of (nat_Mul hx.dn hy.dn (by omega) (by omega)) (by simp) ?_
 simp
 refine callFK_of (nat_Mul hx.dd hy.dd (by omega) (by omega)) (by simp) ?_
 generalize val x.num * val y.num = A at *
 generalize val x.den * val y.den = D at *
 have vA := val_digs m1
 have vD := val_digs m3
 simp
 refine callFK_of (ratio_made (neg := !(x.neg == y.neg)) (digs_dig A) (digs_dig D) (by omega) (by omega)) (by simp) ?_
 rw [vA, vD, show (!(x.neg == y.neg)) = (x.neg != y.neg) from rfl, ← e]
 simp [ratV, Raw.v, setOb, List.filter_cons]
def ratedB (x : Raw) : Bool := x.right && decide (1 ≤ x.q)
structure Rated (a b : List Part) (x : Raw) : Prop where
 na : a.length ≤ 10
 nb : b.length ≤ 10
 oa : ∀ p ∈ a, p.Ok 3
 ob : ∀ p ∈ b, p.Ok 3
 ra : rightP a = true
 rb : rightP b = true
 x3 : x.Ok 3
 rx : ratedB x = true
theorem Rated.one {a b : List Part} {x : Raw} (h : Rated a b x) : 1 ≤ x.q := by
 have := h.rx; simp only [ratedB, Bool.and_eq_true, decide_eq_true_eq] at this; exact this.2
theorem Rated.ga {a b : List Part} {x : Raw} (h : Rated a b x) : Good a := good_of h.ra fun p hp => (h.oa p hp).mono (by omega)
theorem Rated.gb {a b : List Part} {x : Raw} (h : Rated a b x) : Good b := good_of h.rb fun p hp => (h.ob p hp).mono (by omega)
end Go.Proofs.YtipbefckimdkkaaGreat
