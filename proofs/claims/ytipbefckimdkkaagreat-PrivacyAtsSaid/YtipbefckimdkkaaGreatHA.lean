/- Joined texts: DY, CRat6, CPri1. -/
import Derived.Test.YtipbefckimdkkaaGreatGS
import Derived.Test.YtipbefckimdkkaaGreatGL
import Derived.Test.YtipbefckimdkkaaGreatGC
import Derived.Test.YtipbefckimdkkaaGreatProg
import Derived.KernelRfl
import Derived.Test.YtipbefckimdkkaaGreatGQ
/- Functions of the program, as the engine reads them; each is held against the translation. -/
namespace Go.Proofs.YtipbefckimdkkaaGreat.F
open Go Go.Proofs Go.Proofs.YtipbefckimdkkaaGreat.E Go.Proofs.YtipbefckimdkkaaGreat.Q
abbrev ratio_Mul : Nat := 79
def ratio_Mul_c : MFn :=
  ⟨21,(.seq (r [o 2 (.box (.t 0)),o 3 (.box (.t 1)),o 4 (.alloc [.bool false,.nils,.nils])] [2,3,4]) (.seq (r [o 5 (.fA 0 (.t 2)),o 6 (.ld none (.t 5)),o 7 (.fA 0 (.t 3)),o 8 (.ld none (.t 7)),
  o 9 (.binB .neq (.t 6) (.t 8)),o 10 (.fA 1 (.t 2)),o 11 (.ld none (.t 10)),o 12 (.fA 1 (.t 3)),o 13 (.ld none (.t 12)),o 14 (.callF 110 [(.t 11),(.t 13)]),o 15 (.fA 2 (.t 2)),
  o 16 (.ld none (.t 15)),o 17 (.fA 2 (.t 3)),o 18 (.ld none (.t 17)),o 19 (.callF 110 [(.t 16),(.t 18)]),o 20 (.callF 112 [(.t 9),(.t 14),(.t 19)]),z (.st 3 (.t 4) (.t 20))] [4]) .ret)),
  [.cell 4 (some 3)]⟩
theorem ratio_Mul_ok : cFn Tryz.prog (kps [[2,3,4],[4]]) [] 79 = some ratio_Mul_c := by kernel_rfl
abbrev ratio_Div : Nat := 76
def ratio_Div_c : MFn :=
  ⟨26,(.seq (r [o 2 (.box (.t 0)),o 3 (.box (.t 1)),o 4 (.alloc [.bool false,.nils,.nils]),o 5 (.mv (i 0))] [2,3,4]) (.seq (.seq (r [o 6 (.ld (some 3) (.t 3)),o 7 (.call 108 [(.t 6)]),
  o 8 (.bin .eql (.t 7) (i 0))] [2,3,4,8]) (.cond (.t 8) (.seq (r [o 9 (.build [.bool false,.nils,.nils] []),z (.st 3 (.t 4) (.t 9)),o 5 (.mv (i 31))] [4,5]) .ret) .skip))
  (.seq (r [o 10 (.fA 0 (.t 2)),o 11 (.ld none (.t 10)),o 12 (.fA 0 (.t 3)),o 13 (.ld none (.t 12)),o 14 (.binB .neq (.t 11) (.t 13)),o 15 (.fA 1 (.t 2)),o 16 (.ld none (.t 15)),o 17 (.fA 2 (.t 3)),
  o 18 (.ld none (.t 17)),o 19 (.callF 110 [(.t 16),(.t 18)]),o 20 (.fA 2 (.t 2)),o 21 (.ld none (.t 20)),o 22 (.fA 1 (.t 3)),o 23 (.ld none (.t 22)),o 24 (.callF 110 [(.t 21),(.t 23)]),
  o 25 (.callF 112 [(.t 14),(.t 19),(.t 24)]),z (.st 3 (.t 4) (.t 25)),o 5 (.mv (i 0))] [4,5]) .ret))),[.cell 4 (some 3),.t 5]⟩
theorem ratio_Div_ok : cFn Tryz.prog (kps [[2,3,4],[2,3,4,8],[4,5],[4,5]]) [] 76 = some ratio_Div_c := by kernel_rfl
abbrev ref02_Div : Nat := 81
def ref02_Div_c : MFn :=
  ⟨28,(.seq (r [o 2 (.box (.t 0)),o 3 (.box (.t 1)),o 4 (.alloc [.bool false,.nils,.nils]),o 5 (.mv (i 0))] [2,3,4]) (.seq (r [o 6 (.ld (some 3) (.t 2)),o 7 (.callF 53 [(.t 6)]),o 8 (.ld (some 3)
  (.t 3)),o 9 (.callF 53 [(.t 8)]),z (.st 3 (.t 2) (.t 7)),z (.st 3 (.t 3) (.t 9))] [2,3,4]) (.seq (r [o 10 (.fA 0 (.t 2)),o 11 (.ld none (.t 10)),o 12 (.fA 0 (.t 3)),o 13 (.ld none (.t 12)),
  o 14 (.binB .neq (.t 11) (.t 13)),o 15 (.fA 1 (.t 2)),o 16 (.ld none (.t 15)),o 17 (.fA 2 (.t 3)),o 18 (.ld none (.t 17)),o 19 (.callF 55 [(.t 16),(.t 18)]),o 20 (.fA 2 (.t 2)),
  o 21 (.ld none (.t 20)),o 22 (.fA 1 (.t 3)),o 23 (.ld none (.t 22)),o 24 (.callF 55 [(.t 21),(.t 23)]),o 25 (.callF 54 [(.t 14),(.t 19),(.t 24)]),o 26 (.ext (.t 25) 0),o 27 (.ext (.t 25) 1),
  z (.st 3 (.t 4) (.t 26)),o 5 (.mv (.t 27))] [4,5]) .ret))),[.cell 4 (some 3),.t 5]⟩
theorem ref02_Div_ok : cFn Tryz.prog (kps [[2,3,4],[2,3,4],[4,5]]) [] 81 = some ref02_Div_c := by kernel_rfl
abbrev privacy_rated : Nat := 51
def privacy_rated_c : MFn :=
  ⟨11,(.seq (r [o 1 (.box (.t 0)),o 2 (.mv (.c (.bool false)))] [1]) (.seq (r [o 3 (.ld (some 3) (.t 1)),o 4 (.callF 85 [(.t 3)]),o 5 (.mv (.t 4)),y 6 5 (.ld (some 3) (.t 1)),y 7 5 (.callF 97 []),
  y 8 5 (.callF 74 [(.t 6),(.t 7)]),y 9 5 (.bin .geq (.t 8) (i 0)),o 10 (.pick (.t 5) (.t 9) (.c (.bool false))),o 2 (.mv (.t 10))] [2]) .ret)),[.t 2]⟩
theorem privacy_rated_ok : cFn Tryz.prog (kps [[1],[2]]) [] 51 = some privacy_rated_c := by kernel_rfl
abbrev law36_short : Nat := 30
def law36_short_c : MFn :=
  ⟨13,(.seq (r [o 1 (.box (.t 0)),o 2 (.mv (.c (.bool false)))] [1]) (.seq (r [o 3 (.fA 1 (.t 1)),o 4 (.ld none (.t 3)),o 5 (.lenS (.t 4)),o 6 (.bin .leq (.t 5) (i 3)),o 7 (.mv (.t 6)),
  y 8 7 (.fA 2 (.t 1)),y 9 7 (.ld none (.t 8)),y 10 7 (.lenS (.t 9)),y 11 7 (.bin .leq (.t 10) (i 3)),o 12 (.pick (.t 7) (.t 11) (.c (.bool false))),o 2 (.mv (.t 12))] [2]) .ret)),[.t 2]⟩
theorem law36_short_ok : cFn Tryz.prog (kps [[1],[2]]) [] 30 = some law36_short_c := by kernel_rfl
end Go.Proofs.YtipbefckimdkkaaGreat.F

namespace Go.Proofs.YtipbefckimdkkaaGreat
open Go Go.Proofs Go.Proofs.YtipbefckimdkkaaGreat.E
set_option linter.unusedSimpArgs false
set_option linter.unusedVariables false
end Go.Proofs.YtipbefckimdkkaaGreat

namespace Go.Proofs.YtipbefckimdkkaaGreat
open Go Go.Proofs Go.Proofs.YtipbefckimdkkaaGreat.E
set_option linter.unusedSimpArgs false
set_option linter.unusedVariables false
theorem ratio_Mul {x y : Raw} (hx : x.Ok (2 ^ 31)) (hy : y.Ok (2 ^ 31)) : CallD Tryz.prog F.ratio_Mul [x.v, y.v] (· = ratV (x.q * y.q)) := by
  have e := Raw.mul_q hx hy
  have n1 := val_nonneg hx.dn
  have n2 := val_nonneg hx.dd
  have n3 := val_nonneg hy.dn
  have n4 := val_nonneg hy.dd
  have l1 := hx.ln
  have l2 := hx.ld
  have l3 := hy.ln
  have l4 := hy.ld
  have m1 := Int.mul_nonneg n1 n3
  have m3 := Int.mul_nonneg n2 n4
  have d1 := digs_mul_val hx.dn hy.dn
  have d3 := digs_mul_val hx.dd hy.dd
  refine callD_by F.ratio_Mul_ok ?_
  unfold F.ratio_Mul_c
  simp [Raw.v, setOb, List.filter_cons]
  refine callFK_of (nat_Mul hx.dn hy.dn (by omega) (by omega)) (by simp) ?_
  simp
  refine callFK_of (nat_Mul hx.dd hy.dd (by omega) (by omega)) (by simp) ?_
  generalize val x.num * val y.num = A at *
  generalize val x.den * val y.den = D at *
  have vA := val_digs m1
  have vD := val_digs m3
  simp
  refine callFK_of (ratio_made (neg := !(x.neg == y.neg)) (digs_dig A) (digs_dig D) (by omega) (by omega)) (by simp) ?_
  rw [vA, vD, show (!(x.neg == y.neg)) = (x.neg != y.neg) from rfl, ← e]
  simp [ratV, Raw.v, setOb, List.filter_cons]
theorem Raw.div_q {x y : Raw} {k l : Nat} (hx : x.Ok k) (hy : y.Ok l) (h0 : y.q ≠ 0) : x.q / y.q = mkRat (sgn (x.neg != y.neg) (val x.num * val y.den)) (val x.den * val y.num).toNat := by
  have n1 := val_nonneg hx.dn
  have n2 := val_nonneg hx.dd
  have n3 := val_nonneg hy.dn
  have n4 := val_nonneg hy.dd
  have d0 : val y.den ≠ 0 := fun h => h0 (Raw.q_zero_den h)
  have u0 : val y.num ≠ 0 := fun h => h0 (Raw.q_zero_num h)
  have key : mkRat (sgn (x.neg != y.neg) (val x.num * val y.den)) (val x.den * val y.num).toNat * y.q = x.q := by
    unfold Raw.q
    rw [Rat.mkRat_mul_mkRat, sgn_mul]
    have e1 : (val x.den * val y.num).toNat * (val y.den).toNat = (val y.num * val y.den).toNat * (val x.den).toNat := by
      rw [Int.toNat_mul n2 n3, Int.toNat_mul n3 n4]; ac_rfl
    have e2 : sgn ((x.neg != y.neg) != y.neg) (val x.num * val y.den * val y.num) = (((val y.num * val y.den).toNat : Nat) : Int) * sgn x.neg (val x.num) := by
      rw [natCast_toNat (Int.mul_nonneg n3 n4)]
      have : ((x.neg != y.neg) != y.neg) = x.neg := by cases x.neg <;> cases y.neg <;> rfl
      rw [this]
      cases x.neg <;> simp only [sgn, Bool.false_eq_true, if_false, if_true] <;> grind
    rw [e1, e2]
    refine Rat.mkRat_mul_left ?_
    have := Int.mul_pos (show 0 < val y.num by omega) (show 0 < val y.den by omega)
    omega
  generalize mkRat (sgn (x.neg != y.neg) (val x.num * val y.den)) (val x.den * val y.num).toNat = z at *
  rw [← key]
  grind
def divR (a b : Rat) : V := if b = 0 then .tup [.agg [.bool false, .dat [], .dat []], .int .i64 31] else .tup [ratV (a / b), .int .i64 0]
theorem ratio_Div {x y : Raw} (hx : x.Ok (2 ^ 31)) (hy : y.Ok (2 ^ 31)) : CallD Tryz.prog F.ratio_Div [x.v, y.v] (· = divR x.q y.q) := by
  have hy' : y.Ok (2 ^ 33) := ⟨hy.dn, hy.dd, Nat.le_trans hy.ln (by omega), Nat.le_trans hy.ld (by omega)⟩
  refine callD_by F.ratio_Div_ok ?_
  unfold F.ratio_Div_c divR
  simp [Raw.v, setOb, List.filter_cons]
  refine callK_of (ratio_Sign hy') (by simp [Raw.v]) ?_
  by_cases h0 : y.q = 0
  · simp [h0, sgnR_zero, setOb, List.filter_cons]
  · have h1 : ¬ sgnR y.q = 0 := fun h => h0 (sgnR_eq.1 h)
    have e := Raw.div_q hx hy h0
    have n1 := val_nonneg hx.dn
    have n2 := val_nonneg hx.dd
    have n3 := val_nonneg hy.dn
    have n4 := val_nonneg hy.dd
    have l1 := hx.ln
    have l2 := hx.ld
    have l3 := hy.ln
    have l4 := hy.ld
    have m1 := Int.mul_nonneg n1 n4
    have m3 := Int.mul_nonneg n2 n3
    have d1 := digs_mul_val hx.dn hy.dd
    have d3 := digs_mul_val hx.dd hy.dn
    simp [h0, h1, setOb, List.filter_cons]
    refine callFK_of (nat_Mul hx.dn hy.dd (by omega) (by omega)) (by simp) ?_
    simp
    refine callFK_of (nat_Mul hx.dd hy.dn (by omega) (by omega)) (by simp) ?_
    generalize val x.num * val y.den = A at *
    generalize val x.den * val y.num = D at *
    have vA := val_digs m1
    have vD := val_digs m3
    simp
    refine callFK_of (ratio_made (neg := !(x.neg == y.neg)) (digs_dig A) (digs_dig D) (by omega) (by omega)) (by simp) ?_
    rw [vA, vD, show (!(x.neg == y.neg)) = (x.neg != y.neg) from rfl, ← e]
    simp [ratV, Raw.v, setOb, List.filter_cons]
theorem ref02_Div {x y : Raw} (hx : x.Ok (2 ^ 31)) (hy : y.Ok (2 ^ 31)) : CallD Tryz.prog F.ref02_Div [x.v, y.v] (· = divR x.q y.q) := by
  have hx' : x.Ok (2 ^ 33) := ⟨hx.dn, hx.dd, Nat.le_trans hx.ln (by omega), Nat.le_trans hx.ld (by omega)⟩
  have hy' : y.Ok (2 ^ 33) := ⟨hy.dn, hy.dd, Nat.le_trans hy.ln (by omega), Nat.le_trans hy.ld (by omega)⟩
  have ox := rawOf_ok (Raw.fits hx (by omega))
  have oy := rawOf_ok (Raw.fits hy (by omega))
  have dx := canon_den x.q
  have dy := canon_den y.q
  have e : y.q ≠ 0 → _ := fun h => Raw.div_q ox oy (by rw [rawOf_q]; exact h)
  have ez : y.q = 0 ↔ val (rawOf y.q).num = 0 := by
    constructor
    · intro h; rw [h, rawOf_zero]; rfl
    · intro h; have := Raw.q_zero_num h; rwa [rawOf_q] at this
  rw [rawOf_q, rawOf_q] at e
  refine callD_by F.ref02_Div_ok ?_
  unfold F.ref02_Div_c divR
  simp [Raw.v, setOb, List.filter_cons]
  refine callFK_of (ref02_valid hx') (by simp [Raw.v]) ?_
  simp [ratV, Raw.v, setOb, List.filter_cons]
  refine callFK_of (ref02_valid hy') (by simp [Raw.v]) ?_
  simp [ratV, Raw.v, setOb, List.filter_cons]
  generalize rawOf x.q = u at *
  generalize rawOf y.q = w at *
  have n1 := val_nonneg ox.dn
  have n2 := val_nonneg ox.dd
  have n3 := val_nonneg oy.dn
  have n4 := val_nonneg oy.dd
  have l1 := ox.ln
  have l2 := ox.ld
  have l3 := oy.ln
  have l4 := oy.ld
  have m1 := Int.mul_nonneg n1 n4
  have m3 := Int.mul_nonneg n2 n3
  have d1 := digs_mul_val ox.dn oy.dd
  have d3 := digs_mul_val ox.dd oy.dn
  refine callFK_of (ref01_Mul ox.dn oy.dd (by omega) (by omega)) (by simp) ?_
  simp
  refine callFK_of (ref01_Mul ox.dd oy.dn (by omega) (by omega)) (by simp) ?_
  have ez2 : val u.den * val w.num = 0 ↔ y.q = 0 := by
    rw [ez]
    constructor
    · intro h; rcases Int.mul_eq_zero.1 h with h | h
      · omega
      · exact h
    · intro h; rw [h, Int.mul_zero]
  generalize val u.num * val w.den = A at *
  generalize val u.den * val w.num = D at *
  have vA := val_digs m1
  have vD := val_digs m3
  simp
  refine callFK_of (ref02_Of (neg := !(u.neg == w.neg)) (digs_dig A) (digs_dig D) (by omega) (by omega)) (by simp) ?_
  rw [vA, vD]
  by_cases h0 : y.q = 0
  · have := ez2.2 h0
    simp [h0, this, setOb, List.filter_cons]
  · have nD : ¬ D = 0 := fun h => h0 (ez2.1 h)
    rw [show (!(u.neg == w.neg)) = (u.neg != w.neg) from rfl, ← e h0]
    simp [ratV, Raw.v, setOb, List.filter_cons, nD, h0]
end Go.Proofs.YtipbefckimdkkaaGreat

namespace Go.Proofs.YtipbefckimdkkaaGreat
open Go Go.Proofs Go.Proofs.YtipbefckimdkkaaGreat.E
set_option linter.unusedSimpArgs false
set_option linter.unusedVariables false
def ratedB (x : Raw) : Bool := x.right && decide (1 ≤ x.q)
theorem one_ok : (rawOf 1).Ok (2 ^ 31) := rawOf_ok (fits_one.mono (by omega))
theorem cmpR_nn {a b : Rat} : 0 ≤ cmpR a b ↔ b ≤ a := by
  unfold cmpR
  split
  · rename_i h
    exact ⟨fun h' => by omega, fun h' => by grind⟩
  · rename_i h
    exact ⟨fun _ => Rat.not_lt.1 h, fun _ => by split <;> omega⟩
theorem privacy_rated {x : Raw} (hx : x.Ok (2 ^ 31)) : CallD Tryz.prog F.privacy_rated [x.v] (· = .bool (ratedB x)) := by
  have hx33 : x.Ok (2 ^ 33) := hx.mono (by omega)
  refine callD_by F.privacy_rated_ok ?_
  unfold F.privacy_rated_c ratedB
  simp [setOb, List.filter_cons, raw_v]
  refine callFK_of (ratio_Right hx33) (by simp [toD_rawc, raw_v]) ?_
  cases hr : x.right with
  | false => simp
  | true =>
  simp
  refine callFK_of ratio_One (by simp) ?_
  simp [ratV, raw_v]
  refine callFK_of (ratio_Compare hx33 (one_ok.mono (by omega))) (by simp [toD_rawc, raw_v]) ?_
  rw [rawOf_q]
  simp [cmpR_nn]
abbrev zeroA : V := .agg [.bool false, .dat [], .dat []]
def shortB (x : Raw) : Bool := decide (x.num.length ≤ 3) && decide (x.den.length ≤ 3)
theorem short_ok {x : Raw} (hx : x.Ok maxLen) (h : shortB x = true) : x.Ok 3 := by
  simp [shortB] at h; exact ⟨hx.dn, hx.dd, h.1, h.2⟩
theorem law36_short {x : Raw} : CallD Tryz.prog F.law36_short [x.v] (· = .bool (shortB x)) := by
  refine callD_by F.law36_short_ok ?_
  unfold F.law36_short_c shortB
  simp [setOb, List.filter_cons, Raw.v]
  by_cases h : (x.num.length : Int) ≤ 3
  · have h' : x.num.length ≤ 3 := by omega
    simp [h, h']
    by_cases k : (x.den.length : Int) ≤ 3
    · have k' : x.den.length ≤ 3 := by omega
      simp [k, k']
    · have k' : ¬ x.den.length ≤ 3 := by omega
      simp [k, k']
  · have h' : ¬ x.num.length ≤ 3 := by omega
    simp [h, h']
structure Rated (a b : List Part) (x : Raw) : Prop where
  na : a.length ≤ 10
  nb : b.length ≤ 10
  oa : ∀ p ∈ a, p.Ok 3
  ob : ∀ p ∈ b, p.Ok 3
  ra : rightP a = true
  rb : rightP b = true
  x3 : x.Ok 3
  rx : ratedB x = true
theorem Rated.one {a b : List Part} {x : Raw} (h : Rated a b x) : 1 ≤ x.q := by
  have := h.rx; simp only [ratedB, Bool.and_eq_true, decide_eq_true_eq] at this; exact this.2
theorem Rated.ga {a b : List Part} {x : Raw} (h : Rated a b x) : Good a := good_of h.ra fun p hp => (h.oa p hp).mono (by omega)
theorem Rated.gb {a b : List Part} {x : Raw} (h : Rated a b x) : Good b := good_of h.rb fun p hp => (h.ob p hp).mono (by omega)
end Go.Proofs.YtipbefckimdkkaaGreat
