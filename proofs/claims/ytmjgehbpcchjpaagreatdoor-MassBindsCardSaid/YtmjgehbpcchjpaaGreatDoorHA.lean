import Derived.Test.YtmjgehbpcchjpaaGreatDoorGL
import Derived.Test.YtmjgehbpcchjpaaGreatDoorGC
import Derived.Test.YtmjgehbpcchjpaaGreatDoorProg
import Derived.KernelRfl
namespace Go.Proofs.YtmjgehbpcchjpaaGreatDoor.F
open Go Go.Proofs Go.Proofs.YtmjgehbpcchjpaaGreatDoor.E Go.Proofs.YtmjgehbpcchjpaaGreatDoor.Q
abbrev ratio_Mul : Nat := 39
def ratio_Mul_c : MFn := ⟨21,(.seq (r [o 2 (.box (.t 0)),o 3 (.box (.t 1)),o 4 (.alloc zR)] [2,3,4]) (.seq (r [o 5 (.fA 0 (.t 2)),o 6 (.ld none (.t 5)),o 7 (.fA 0 (.t 3)),o 8 (.ld none (.t 7)),o 9 (.binB .neq (.t 6) (.t 8)),o 10 (.fA 1 (.t 2)),o 11 (.ld none (.t 10)),o 12 (.fA 1 (.t 3)),o 13 (.ld none (.t 12)),o 14 (.callF 107 [(.t 11),(.t 13)]),o 15 (.fA 2 (.t 2)),o 16 (.ld none (.t 15)),o 17 (.fA 2 (.t 3)),o 18 (.ld none (.t 17)),o 19 (.callF 107 [(.t 16),(.t 18)]),o 20 (.callF 106 [(.t 9),(.t 14),(.t 19)]),z (.st 3 (.t 4) (.t 20))] [4]) .ret)),[.cell 4 (some 3)]⟩
theorem ratio_Mul_ok : cFn Tryz.prog (kps [[2,3,4],[4]]) [] 39 = some ratio_Mul_c := by kernel_rfl
end Go.Proofs.YtmjgehbpcchjpaaGreatDoor.F

namespace Go.Proofs.YtmjgehbpcchjpaaGreatDoor
open Go Go.Proofs Go.Proofs.YtmjgehbpcchjpaaGreatDoor.E
set_option linter.unusedSimpArgs false
set_option linter.unusedVariables false
theorem ratio_Mul {x y : Raw} (hx : x.Ok (2 ^ 31)) (hy : y.Ok (2 ^ 31)) : CallD Tryz.prog F.ratio_Mul [x.v, y.v] (· = bb (x.q * y.q)) := by
 have e := Raw.mul_q hx hy
 have n1 := aq hx.dn
 have n2 := aq hx.dd
 have n3 := aq hy.dn
 have n4 := aq hy.dd
 have l1 := hx.ln
 have l2 := hx.ld
 have l3 := hy.ln
 have l4 := hy.ld
 have m1 := Int.mul_nonneg n1 n3
 have m3 := Int.mul_nonneg n2 n4
 have d1 := bK hx.dn hy.dn
 have d3 := bK hx.dd hy.dd
 refine aB F.ratio_Mul_ok ?_
 unfold F.ratio_Mul_c
 simp [Raw.v, ag, List.filter_cons]
 refine ak (nat_Mul hx.dn hy.dn (by omega) (by omega)) (by simp) ?_
 simp
 refine ak (nat_Mul hx.dd hy.dd (by omega) (by omega)) (by simp) ?_
 generalize val x.num * val y.num = A at *
 generalize val x.den * val y.den = D at *
 have vA := aC m1
 have vD := aC m3
 simp
 refine ak (ratio_made (neg := !(x.neg == y.neg)) (au A) (au D) (by omega) (by omega)) (by simp) ?_
 rw [vA, vD, show (!(x.neg == y.neg)) = (x.neg != y.neg) from rfl, ← e]
 simp [bb, Raw.v, ag, List.filter_cons]
end Go.Proofs.YtmjgehbpcchjpaaGreatDoor
