import Derived.Test.YtkockkfmjmheeaaGreatGL
import Derived.Test.YtkockkfmjmheeaaGreatGC
import Derived.Test.YtkockkfmjmheeaaGreatProg
import Derived.KernelRfl
import Derived.Test.YtkockkfmjmheeaaGreatGE
namespace Go.Proofs.YtkockkfmjmheeaaGreat.F
open Go Go.Proofs Go.Proofs.YtkockkfmjmheeaaGreat.E Go.Proofs.YtkockkfmjmheeaaGreat.Q
abbrev ratio_Mul : Nat := 35
def ratio_Mul_c : MFn := ⟨21,(.seq (r [o 2 (.box (.t 0)),o 3 (.box (.t 1)),o 4 (.alloc zR)] [2,3,4]) (.seq (r [o 5 (.fA 0 (.t 2)),o 6 (.ld none (.t 5)),o 7 (.fA 0 (.t 3)),o 8 (.ld none (.t 7)),o 9 (.binB .neq (.t 6) (.t 8)),o 10 (.fA 1 (.t 2)),o 11 (.ld none (.t 10)),o 12 (.fA 1 (.t 3)),o 13 (.ld none (.t 12)),o 14 (.callF 58 [(.t 11),(.t 13)]),o 15 (.fA 2 (.t 2)),o 16 (.ld none (.t 15)),o 17 (.fA 2 (.t 3)),o 18 (.ld none (.t 17)),o 19 (.callF 58 [(.t 16),(.t 18)]),o 20 (.callF 57 [(.t 9),(.t 14),(.t 19)]),z (.st 3 (.t 4) (.t 20))] [4]) .ret)),[.cell 4 (some 3)]⟩
theorem ratio_Mul_ok : cFn Tryz.prog (kps [[2,3,4],[4]]) [] 35 = some ratio_Mul_c := by kernel_rfl
abbrev ratio_Div : Nat := 34
def ratio_Div_c : MFn := ⟨26,(.seq (r [o 2 (.box (.t 0)),o 3 (.box (.t 1)),o 4 (.alloc zR),o 5 (.mv (i 0))] [2,3,4]) (.seq (.seq (r [o 6 (.ld (some 3) (.t 3)),o 7 (.call 56 [(.t 6)]),o 8 (.bin .eql (.t 7) (i 0))] [2,3,4,8]) (.cond (.t 8) (.seq (r [o 9 (.build zR []),z (.st 3 (.t 4) (.t 9)),o 5 (.mv (i 31))] [4,5]) .ret) .skip)) (.seq (r [o 10 (.fA 0 (.t 2)),o 11 (.ld none (.t 10)),o 12 (.fA 0 (.t 3)),o 13 (.ld none (.t 12)),o 14 (.binB .neq (.t 11) (.t 13)),o 15 (.fA 1 (.t 2)),o 16 (.ld none (.t 15)),o 17 (.fA 2 (.t 3)),o 18 (.ld none (.t 17)),o 19 (.callF 58 [(.t 16),(.t 18)]),o 20 (.fA 2 (.t 2)),o 21 (.ld none (.t 20)),o 22 (.fA 1 (.t 3)),o 23 (.ld none (.t 22)),o 24 (.callF 58 [(.t 21),(.t 23)]),o 25 (.callF 57 [(.t 14),(.t 19),(.t 24)]),z (.st 3 (.t 4) (.t 25)),o 5 (.mv (i 0))] [4,5]) .ret))),[.cell 4 (some 3),.t 5]⟩
theorem ratio_Div_ok : cFn Tryz.prog (kps [[2,3,4],[2,3,4,8],[4,5],[4,5]]) [] 34 = some ratio_Div_c := by kernel_rfl
abbrev ref02_Div : Nat := 39
def ref02_Div_c : MFn := ⟨28,(.seq (r [o 2 (.box (.t 0)),o 3 (.box (.t 1)),o 4 (.alloc zR),o 5 (.mv (i 0))] [2,3,4]) (.seq (r [o 6 (.ld (some 3) (.t 2)),o 7 (.callF 65 [(.t 6)]),o 8 (.ld (some 3) (.t 3)),o 9 (.callF 65 [(.t 8)]),z (.st 3 (.t 2) (.t 7)),z (.st 3 (.t 3) (.t 9))] [2,3,4]) (.seq (r [o 10 (.fA 0 (.t 2)),o 11 (.ld none (.t 10)),o 12 (.fA 0 (.t 3)),o 13 (.ld none (.t 12)),o 14 (.binB .neq (.t 11) (.t 13)),o 15 (.fA 1 (.t 2)),o 16 (.ld none (.t 15)),o 17 (.fA 2 (.t 3)),o 18 (.ld none (.t 17)),o 19 (.callF 66 [(.t 16),(.t 18)]),o 20 (.fA 2 (.t 2)),o 21 (.ld none (.t 20)),o 22 (.fA 1 (.t 3)),o 23 (.ld none (.t 22)),o 24 (.callF 66 [(.t 21),(.t 23)]),o 25 (.callF 51 [(.t 14),(.t 19),(.t 24)]),o 26 (.ext (.t 25) 0),o 27 (.ext (.t 25) 1),z (.st 3 (.t 4) (.t 26)),o 5 (.mv (.t 27))] [4,5]) .ret))),[.cell 4 (some 3),.t 5]⟩
theorem ref02_Div_ok : cFn Tryz.prog (kps [[2,3,4],[2,3,4],[4,5]]) [] 39 = some ref02_Div_c := by kernel_rfl
end Go.Proofs.YtkockkfmjmheeaaGreat.F

namespace Go.Proofs.YtkockkfmjmheeaaGreat
open Go Go.Proofs Go.Proofs.YtkockkfmjmheeaaGreat.E
set_option linter.unusedSimpArgs false
set_option linter.unusedVariables false
theorem ratio_Mul {x y : Raw} (hx : x.Ok (2 ^ 31)) (hy : y.Ok (2 ^ 31)) : CallD Tryz.prog F.ratio_Mul [x.v, y.v] (· = ratV (x.q * y.q)) := by
 have e := Raw.mul_q hx hy
 have n1 := val_nonneg hx.dn
 have n2 := val_nonneg hx.dd
 have n3 := val_nonneg hy.dn
 have n4 := val_nonneg hy.dd
 have l1 := hx.ln
 have l2 := hx.ld
 have l3 := hy.ln
 have l4 := hy.ld
 have m1 := Int.mul_nonneg n1 n3
 have m3 := Int.mul_nonneg n2 n4
 have d1 := digs_mul_val hx.dn hy.dn
 have d3 := digs_mul_val hx.dd hy.dd
 refine callD_by F.ratio_Mul_ok ?_
 unfold F.ratio_Mul_c
 simp [Raw.v, setOb, List.filter_cons]
 refine callFK_of (nat_Mul hx.dn hy.dn (by omega) (by omega)) (by simp) ?_
 simp
 refine callFK_of (nat_Mul hx.dd hy.dd (by omega) (by omega)) (by simp) ?_
 generalize val x.num * val y.num = A at *
 generalize val x.den * val y.den = D at *
 have vA := val_digs m1
 have vD := val_digs m3
 simp
 refine callFK_of (ratio_made (neg := !(x.neg == y.neg)) (digs_dig A) (digs_dig D) (by omega) (by omega)) (by simp) ?_
 rw [vA, vD, show (!(x.neg == y.neg)) = (x.neg != y.neg) from rfl, ← e]
 simp [ratV, Raw.v, setOb, List.filter_cons]
theorem Raw.div_q {x y : Raw} {k l : Nat} (hx : x.Ok k) (hy : y.Ok l) (h0 : y.q ≠ 0) : x.q / y.q = mkRat (sgn (x.neg != y.neg) (val x.num * val y.den)) (val x.den * val y.num).toNat := by
 have n1 := val_nonneg hx.dn
 have n2 := val_nonneg hx.dd
 have n3 := val_nonneg hy.dn
 have n4 := val_nonneg hy.dd
 have d0 : val y.den ≠ 0 := fun h => h0 (Raw.q_zero_den h)
 have u0 : val y.num ≠ 0 := fun h => h0 (Raw.q_zero_num h)
 have key : mkRat (sgn (x.neg != y.neg) (val x.num * val y.den)) (val x.den * val y.num).toNat * y.q = x.q := by
  unfold Raw.q
  rw [Rat.mkRat_mul_mkRat, sgn_mul]
  have e1 : (val x.den * val y.num).toNat * (val y.den).toNat = (val y.num * val y.den).toNat * (val x.den).toNat := by
   rw [Int.toNat_mul n2 n3, Int.toNat_mul n3 n4]; ac_rfl
  have e2 : sgn ((x.neg != y.neg) != y.neg) (val x.num * val y.den * val y.num) = (((val y.num * val y.den).toNat : Nat) : Int) * sgn x.neg (val x.num) := by
   rw [natCast_toNat (Int.mul_nonneg n3 n4)]
   have : ((x.neg != y.neg) != y.neg) = x.neg := by cases x.neg <;> cases y.neg <;> rfl
   rw [this]
   cases x.neg <;> simp only [sgn, Bool.false_eq_true, if_false, if_true] <;> grind
  rw [e1, e2]
  refine Rat.mkRat_mul_left ?_
  have := Int.mul_pos (show 0 < val y.num by omega) (show 0 < val y.den by omega)
  omega
 generalize mkRat (sgn (x.neg != y.neg) (val x.num * val y.den)) (val x.den * val y.num).toNat = z at *
 rw [← key]
 grind
def divR (a b : Rat) : V := if b = 0 then .tup [.agg [.bool false, .dat [], .dat []], .int .i64 31] else .tup [ratV (a / b), .int .i64 0]
theorem ratio_Div {x y : Raw} (hx : x.Ok (2 ^ 31)) (hy : y.Ok (2 ^ 31)) : CallD Tryz.prog F.ratio_Div [x.v, y.v] (· = divR x.q y.q) := by
 have hy' : y.Ok (2 ^ 33) := ⟨hy.dn, hy.dd, Nat.le_trans hy.ln (by omega), Nat.le_trans hy.ld (by omega)⟩
 refine callD_by F.ratio_Div_ok ?_
 unfold F.ratio_Div_c divR
 simp [Raw.v, setOb, List.filter_cons]
 refine callK_of (ratio_Sign hy') (by simp [Raw.v]) ?_
 by_cases h0 : y.q = 0
 ·simp [h0, sgnR_zero, setOb, List.filter_cons]
 ·have h1 : ¬ sgnR y.q = 0 := fun h => h0 (sgnR_eq.1 h)
  have e := Raw.div_q hx hy h0
  have n1 := val_nonneg hx.dn
  have n2 := val_nonneg hx.dd
  have n3 := val_nonneg hy.dn
  have n4 := val_nonneg hy.dd
  have l1 := hx.ln
  have l2 := hx.ld
  have l3 := hy.ln
  have l4 := hy.ld
  have m1 := Int.mul_nonneg n1 n4
  have m3 := Int.mul_nonneg n2 n3
  have d1 := digs_mul_val hx.dn hy.dd
  have d3 := digs_mul_val hx.dd hy.dn
  simp [h0, h1, setOb, List.filter_cons]
  refine callFK_of (nat_Mul hx.dn hy.dd (by omega) (by omega)) (by simp) ?_
  simp
  refine callFK_of (nat_Mul hx.dd hy.dn (by omega) (by omega)) (by simp) ?_
  generalize val x.num * val y.den = A at *
  generalize val x.den * val y.num = D at *
  have vA := val_digs m1
  have vD := val_digs m3
  simp
  refine callFK_of (ratio_made (neg := !(x.neg == y.neg)) (digs_dig A) (digs_dig D) (by omega) (by omega)) (by simp) ?_
  rw [vA, vD, show (!(x.neg == y.neg)) = (x.neg != y.neg) from rfl, ← e]
  simp [ratV, Raw.v, setOb, List.filter_cons]
theorem ref02_Div {x y : Raw} (hx : x.Ok (2 ^ 31)) (hy : y.Ok (2 ^ 31)) : CallD Tryz.prog F.ref02_Div [x.v, y.v] (· = divR x.q y.q) := by
 have hx' : x.Ok (2 ^ 33) := ⟨hx.dn, hx.dd, Nat.le_trans hx.ln (by omega), Nat.le_trans hx.ld (by omega)⟩
 have hy' : y.Ok (2 ^ 33) := ⟨hy.dn, hy.dd, Nat.le_trans hy.ln (by omega), Nat.le_trans hy.ld (by omega)⟩
 have ox := rawOf_ok (Raw.fits hx (by omega))
 have oy := rawOf_ok (Raw.fits hy (by omega))
 have dx := canon_den x.q
 have dy := canon_den y.q
 have e : y.q ≠ 0 → _ := fun h => Raw.div_q ox oy (by rw [rawOf_q]; exact h)
 have ez : y.q = 0 ↔ val (rawOf y.q).num = 0 := by
  constructor
  ·intro h; rw [h, rawOf_zero]; rfl
  ·intro h; have := Raw.q_zero_num h; rwa [rawOf_q] at this
 rw [rawOf_q, rawOf_q] at e
 refine callD_by F.ref02_Div_ok ?_
 unfold F.ref02_Div_c divR
 simp [Raw.v, setOb, List.filter_cons]
 refine callFK_of (ref02_valid hx') (by simp [Raw.v]) ?_
 simp [ratV, Raw.v, setOb, List.filter_cons]
 refine callFK_of (ref02_valid hy') (by simp [Raw.v]) ?_
 simp [ratV, Raw.v, setOb, List.filter_cons]
 generalize rawOf x.q = u at *
 generalize rawOf y.q = w at *
 have n1 := val_nonneg ox.dn
 have n2 := val_nonneg ox.dd
 have n3 := val_nonneg oy.dn
 have n4 := val_nonneg oy.dd
 have l1 := ox.ln
 have l2 := ox.ld
 have l3 := oy.ln
 have l4 := oy.ld
 have m1 := Int.mul_nonneg n1 n4
 have m3 := Int.mul_nonneg n2 n3
 have d1 := digs_mul_val ox.dn oy.dd
 have d3 := digs_mul_val ox.dd oy.dn
 refine callFK_of (ref01_Mul ox.dn oy.dd (by omega) (by omega)) (by simp) ?_
 simp
 refine callFK_of (ref01_Mul ox.dd oy.dn (by omega) (by omega)) (by simp) ?_
 have ez2 : val u.den * val w.num = 0 ↔ y.q = 0 := by
  rw [ez]
  constructor
  ·intro h; rcases Int.mul_eq_zero.1 h with h | h
   ·omega
   ·exact h
  ·intro h; rw [h, Int.mul_zero]
 generalize val u.num * val w.den = A at *
 generalize val u.den * val w.num = D at *
 have vA := val_digs m1
 have vD := val_digs m3
 simp
 refine callFK_of (ref02_Of (neg := !(u.neg == w.neg)) (digs_dig A) (digs_dig D) (by omega) (by omega)) (by simp) ?_
 rw [vA, vD]
 by_cases h0 : y.q = 0
 ·have := ez2.2 h0
  simp [h0, this, setOb, List.filter_cons]
 ·have nD : ¬ D = 0 := fun h => h0 (ez2.1 h)
  rw [show (!(u.neg == w.neg)) = (u.neg != w.neg) from rfl, ← e h0]
  simp [ratV, Raw.v, setOb, List.filter_cons, nD, h0]
end Go.Proofs.YtkockkfmjmheeaaGreat
