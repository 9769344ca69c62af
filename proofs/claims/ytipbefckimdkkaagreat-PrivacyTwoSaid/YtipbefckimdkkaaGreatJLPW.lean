/- PrivacyTwo, over data. -/
import Derived.Test.YtipbefckimdkkaaGreatJDZ1
import Derived.Test.YtipbefckimdkkaaGreatHF
import Derived.Test.YtipbefckimdkkaaGreatJLPB
import Derived.Test.YtipbefckimdkkaaGreatJLPT
/- Functions of the program, as the engine reads them; each is held against the translation. -/
namespace Go.Proofs.YtipbefckimdkkaaGreat.F
open Go Go.Proofs Go.Proofs.YtipbefckimdkkaaGreat.E Go.Proofs.YtipbefckimdkkaaGreat.Q
abbrev law36_PrivacyTwo : Nat := 8
def law36_PrivacyTwo_c : MFn :=
  ⟨142,(.seq (r [o 3 (.box (.t 0)),o 4 (.box (.t 1)),o 5 (.box (.t 2)),o 6 (.mv (.c (.bool false)))] [3,4,5]) (.seq (.seq (r [o 17 (.fA 0 (.t 3)),o 18 (.ld none (.t 17)),o 19 (.fA 1 (.t 3)),
  o 20 (.ld none (.t 19)),o 21 (.ld (some 3) (.t 4)),o 22 (.call 13 [(.t 18),(.t 20),(.t 21)]),o 23 (.un .not (.t 22)),o 24 (.mv (.t 23)),n 25 24 (.fA 2 (.t 3)),n 26 24 (.ld none (.t 25)),
  n 27 24 (.fA 3 (.t 3)),n 28 24 (.ld none (.t 27)),n 29 24 (.ld (some 3) (.t 5)),n 30 24 (.call 13 [(.t 26),(.t 28),(.t 29)]),n 31 24 (.un .not (.t 30)),o 32 (.pick (.t 24) (.c (.bool true))
  (.t 31)),o 33 (.mv (.t 32)),n 34 33 (.fA 0 (.t 3)),n 35 33 (.ld none (.t 34)),n 36 33 (.lenS (.t 35)),n 37 33 (.fA 2 (.t 3)),n 38 33 (.ld none (.t 37)),n 39 33 (.lenS (.t 38)),
  n 40 33 (.bin .mul (.t 36) (.t 39)),n 41 33 (.bin .gtr (.t 40) (i 30)),o 42 (.pick (.t 33) (.c (.bool true)) (.t 41)),o 43 (.mv (.t 42)),n 44 43 (.fA 1 (.t 3)),n 45 43 (.ld none (.t 44)),
  n 46 43 (.lenS (.t 45)),n 47 43 (.fA 3 (.t 3)),n 48 43 (.ld none (.t 47)),n 49 43 (.lenS (.t 48)),n 50 43 (.bin .mul (.t 46) (.t 49)),n 51 43 (.bin .gtr (.t 50) (i 30)),o 52 (.pick (.t 43)
  (.c (.bool true)) (.t 51))] [3,4,5,52]) (.cond (.t 52) (.seq (r [o 6 (.mv (.c (.bool true)))] [6]) .ret) .skip)) (.seq (r [o 54 (.fA 0 (.t 3)),o 55 (.ld none (.t 54)),o 56 (.fA 2 (.t 3)),
  o 57 (.ld none (.t 56)),o 58 (.call 33 [(.t 55),(.t 57)]),o 53 (.mv (.t 58)),o 59 (.ext (.t 53) 0),o 60 (.ext (.t 53) 1),o 7 (.mv (.t 59)),o 8 (.mv (.t 60))] [3,4,5,7,8])
  (.seq (r [o 62 (.fA 1 (.t 3)),o 63 (.ld none (.t 62)),o 64 (.fA 3 (.t 3)),o 65 (.ld none (.t 64)),o 66 (.call 33 [(.t 63),(.t 65)]),o 61 (.mv (.t 66)),o 67 (.ext (.t 61) 0),o 68 (.ext (.t 61) 1),
  o 9 (.mv (.t 67)),o 10 (.mv (.t 68))] [3,4,5,7,8,9,10]) (.seq (.seq (r [o 69 (.mv (.t 8)),o 70 (.bin .eql (.t 69) (i 0)),o 71 (.mv (.t 70)),y 72 71 (.mv (.t 10)),y 73 71 (.bin .eql (.t 72) (i 0)),
  o 74 (.pick (.t 71) (.t 73) (.c (.bool false))),o 75 (.mv (.t 74)),y 76 75 (.mv (.t 7)),y 77 75 (.call 36 [(.t 76)]),y 78 75 (.un .not (.t 77)),y 79 75 (.mv (.t 78)),n 80 79 (.mv (.t 9)),
  n 81 79 (.call 36 [(.t 80)]),n 82 79 (.un .not (.t 81)),y 83 75 (.pick (.t 79) (.c (.bool true)) (.t 82)),o 84 (.pick (.t 75) (.t 83) (.c (.bool false)))] [3,4,5,7,8,9,10,84]) (.cond (.t 84)
  (.seq (r [o 85 (.call 18 []),o 6 (.mv (.t 85))] [6]) .ret) .skip)) (.seq (r [o 87 (.fA 0 (.t 3)),o 88 (.ld none (.t 87)),o 89 (.fA 1 (.t 3)),o 90 (.ld none (.t 89)),o 91 (.ld (some 3) (.t 4)),
  o 92 (.call 14 [(.t 88),(.t 90),(.t 91)]),o 86 (.mv (.t 92)),o 93 (.ext (.t 86) 0),o 94 (.ext (.t 86) 1),o 11 (.alloc [.bool false,.nils,.nils]),z (.st 3 (.t 11) (.t 93)),o 12 (.mv (.t 94))] [3,4,5,
  7,8,9,10,11,12]) (.seq (r [o 96 (.fA 2 (.t 3)),o 97 (.ld none (.t 96)),o 98 (.fA 3 (.t 3)),o 99 (.ld none (.t 98)),o 100 (.ld (some 3) (.t 5)),o 101 (.call 14 [(.t 97),(.t 99),(.t 100)]),
  o 95 (.mv (.t 101)),o 102 (.ext (.t 95) 0),o 103 (.ext (.t 95) 1),o 13 (.alloc [.bool false,.nils,.nils]),z (.st 3 (.t 13) (.t 102)),o 14 (.mv (.t 103))] [4,5,7,8,9,10,11,12,13,14])
  (.seq (r [o 105 (.mv (.t 7)),o 106 (.mv (.t 9)),o 107 (.ld (some 3) (.t 4)),o 108 (.ld (some 3) (.t 5)),o 109 (.call 15 [(.t 107),(.t 108)]),o 110 (.call 14 [(.t 105),(.t 106),(.t 109)]),
  o 104 (.mv (.t 110)),o 111 (.ext (.t 104) 0),o 112 (.ext (.t 104) 1),o 15 (.alloc [.bool false,.nils,.nils]),z (.st 3 (.t 15) (.t 111)),o 16 (.mv (.t 112))] [8,10,11,12,13,14,15,16])
  (.seq (r [o 113 (.mv (.t 8)),o 114 (.bin .eql (.t 113) (i 0)),o 115 (.mv (.t 114)),y 116 115 (.mv (.t 10)),y 117 115 (.bin .eql (.t 116) (i 0)),o 118 (.pick (.t 115) (.t 117) (.c (.bool false))),
  o 119 (.mv (.t 118)),y 120 119 (.mv (.t 12)),y 121 119 (.bin .eql (.t 120) (i 0)),o 122 (.pick (.t 119) (.t 121) (.c (.bool false))),o 123 (.mv (.t 122)),y 124 123 (.mv (.t 14)),
  y 125 123 (.bin .eql (.t 124) (i 0)),o 126 (.pick (.t 123) (.t 125) (.c (.bool false))),o 127 (.mv (.t 126)),y 128 127 (.mv (.t 16)),y 129 127 (.bin .eql (.t 128) (i 0)),o 130 (.pick (.t 127)
  (.t 129) (.c (.bool false))),o 131 (.mv (.t 130)),y 132 131 (.ld (some 3) (.t 15)),y 133 131 (.ld (some 3) (.t 11)),y 134 131 (.ld (some 3) (.t 13)),y 135 131 (.callF 17 [(.t 133),(.t 134)]),
  y 136 131 (.callF 16 [(.t 132),(.t 135)]),y 137 131 (.bin .leq (.t 136) (i 0)),o 138 (.pick (.t 131) (.t 137) (.c (.bool false))),o 139 (.mv (.t 138)),y 140 139 (.callF 18 []),o 141 (.pick (.t 139)
  (.t 140) (.c (.bool false))),o 6 (.mv (.t 141))] [6]) .ret))))))))),[.t 6]⟩
theorem law36_PrivacyTwo_ok : cFn Tryz.prog (kps [[3,4,5],[3,4,5,52],[6],[3,4,5,7,8],[3,4,5,7,8,9,10],[3,4,5,7,8,9,10,84],[6],[3,4,5,7,8,9,10,11,12],[4,5,7,8,9,10,11,12,13,14],[8,10,11,12,13,14,15,16],[6]]) [] 8 = some law36_PrivacyTwo_c := by kernel_rfl
end Go.Proofs.YtipbefckimdkkaaGreat.F

namespace Go.Proofs.YtipbefckimdkkaaGreat
open Go Go.Proofs Go.Proofs.YtipbefckimdkkaaGreat.E
set_option linter.unusedSimpArgs false
set_option linter.unusedVariables false
theorem bothV_ok {a b : List Part} (ra : rightP a = true) (rb : rightP b = true) (h : a.length * b.length ≤ 60) : bothV a b = .tup [pl (jointL a b), .int .i64 0] := by
  unfold bothV; rw [ra, rb]; simp [show ¬ 60 < a.length * b.length by omega]
theorem joint_oks {a b : List Part} {k : Nat} (hk : 1 ≤ k) (oa : ∀ p ∈ a, p.Ok k) (ob : ∀ p ∈ b, p.Ok k) : ∀ p ∈ jointL a b, p.Ok (k + k) := by
  intro p hp
  unfold jointL at hp
  obtain ⟨x, hx, hp⟩ := List.mem_flatMap.1 hp
  obtain ⟨y, hy, rfl⟩ := List.mem_map.1 hp
  exact ⟨jnt_ok (oa x hx).v (ob y hy).v, rawOf_ok (fits_mul (Raw.fits (oa x hx).w hk) (Raw.fits (ob y hy).w hk) hk)⟩
theorem rated_few {a b : List Part} {x : Raw} (h : ratedP a b x = true) : fewP a = true ∧ fewP b = true := by
  simp only [ratedP, Bool.and_eq_true] at h
  obtain ⟨⟨⟨⟨⟨h1, h2⟩, h3⟩, h4⟩, h5⟩, h6⟩ := h
  exact ⟨h1, h2⟩
set_option maxHeartbeats 8000000 in
theorem privacyTwo_law {l0 l1 l2 : List V} (h0 : ∃ n, Typed Tryz.prog n T.four l0) (h1 : ∃ n, Typed Tryz.prog n T.ratio l1) (h2 : ∃ n, Typed Tryz.prog n T.ratio l2) : CallD Tryz.prog F.law36_PrivacyTwo [.agg l0, .agg l1, .agg l2] (· = .bool true) := by
  obtain ⟨a, b, c, d, rfl, ⟨la, ha⟩, ⟨lb, hb⟩, ⟨lc, hc⟩, ⟨ld, hd⟩⟩ := read_four h0
  obtain ⟨x, rfl, hx⟩ := read_rat h1
  obtain ⟨y, rfl, hy⟩ := read_rat h2
  refine callD_by F.law36_PrivacyTwo_ok ?_
  unfold F.law36_PrivacyTwo_c
  simp [setOb, List.filter_cons]
  refine callK_of (law36_rated la lb ha hb hx) (by simp [toD_rawc, raw_v]) ?_
  cases r1 : ratedP a b x with
  | false => simp
  | true =>
  simp
  refine callK_of (law36_rated lc ld hc hd hy) (by simp [toD_rawc, raw_v]) ?_
  cases r2 : ratedP c d y with
  | false => simp
  | true =>
  have R1 := rated_of ha hb hx r1
  have R2 := rated_of hc hd hy r2
  obtain ⟨fa, fb⟩ := rated_few r1
  obtain ⟨fc, fd⟩ := rated_few r2
  have ga := R1.ga
  have gb := R1.gb
  have gc := R2.ga
  have gd := R2.gb
  have la' := R1.na
  have lb' := R1.nb
  have lc' := R2.na
  have ld' := R2.nb
  have mac : a.length * c.length ≤ 10 * 10 := Nat.mul_le_mul la' lc'
  have mbd : b.length * d.length ≤ 10 * 10 := Nat.mul_le_mul lb' ld'
  have eac : ((a.length * c.length : Nat) : Int) = (a.length : Int) * c.length := by simp
  have ebd : ((b.length * d.length : Nat) : Int) = (b.length : Int) * d.length := by simp
  simp
  rw [← eac, wrap64 (by omega) (by omega)]
  by_cases h1 : 30 < a.length * c.length
  · have i1 : ¬ (a.length : Int) * c.length ≤ 30 := by rw [← eac]; omega
    have i2 : (30 : Int) < (a.length : Int) * c.length := by rw [← eac]; omega
    simp [i1, i2]
  have i1 : (a.length : Int) * c.length ≤ 30 := by rw [← eac]; omega
  have i2 : ¬ (30 : Int) < (a.length : Int) * c.length := by rw [← eac]; omega
  simp [i1, i2]
  rw [← ebd, wrap64 (by omega) (by omega)]
  by_cases h2 : 30 < b.length * d.length
  · have j1 : ¬ (b.length : Int) * d.length ≤ 30 := by rw [← ebd]; omega
    have j2 : (30 : Int) < (b.length : Int) * d.length := by rw [← ebd]; omega
    simp [j1, j2]
  have j1 : (b.length : Int) * d.length ≤ 30 := by rw [← ebd]; omega
  have j2 : ¬ (30 : Int) < (b.length : Int) * d.length := by rw [← ebd]; omega
  simp [j1, j2]
  have B1 := bothV_ok R1.ra R2.ra (show a.length * c.length ≤ 60 by omega)
  have B2 := bothV_ok R1.rb R2.rb (show b.length * d.length ≤ 60 by omega)
  refine callK_of (privacy_Both (by omega) (by omega) ga.ok gc.ok (many_few10 fa) (many_few10 fc)) (by simp) ?_
  rw [B1]
  simp
  refine callK_of (privacy_Both (by omega) (by omega) gb.ok gd.ok (many_few10 fb) (many_few10 fd)) (by simp) ?_
  rw [B2]
  simp
  have oj1 : ∀ p ∈ jointL a c, p.Ok 6 := joint_oks (k := 3) (by omega) R1.oa R2.oa
  have oj2 : ∀ p ∈ jointL b d, p.Ok 6 := joint_oks (k := 3) (by omega) R1.ob R2.ob
  have lj1 := jointL_length a c
  have lj2 := jointL_length b d
  refine callK_of (ref35_Right (by omega) fun p h => (oj1 p h).mono (by omega)) (by simp) ?_
  cases rj1 : rightP (jointL a c) with
  | false =>
    simp
    refine callK_of law36_alive (by simp) ?_
    simp
  | true =>
  simp
  refine callK_of (ref35_Right (by omega) fun p h => (oj2 p h).mono (by omega)) (by simp) ?_
  cases rj2 : rightP (jointL b d) with
  | false =>
    simp
    refine callK_of law36_alive (by simp) ?_
    simp
  | true =>
  have gj1 := good_of rj1 fun p h => (oj1 p h).mono (by omega)
  have gj2 := good_of rj2 fun p h => (oj2 p h).mono (by omega)
  have x1 := R1.one
  have y1 := R2.one
  have x0 : 0 ≤ x.q := by grind
  have y0 : 0 ≤ y.q := by grind
  have fx := Raw.fits R1.x3 (by omega)
  have fy := Raw.fits R2.x3 (by omega)
  have fxy := fits_mul fx fy (by omega)
  have xy1 : 1 ≤ x.q * y.q := by
    have := mul_le_l x0 y1
    grind
  have fr1 := rest_fits ga.ok gb.ok (fx.mono (show 3 ≤ 1000000 by omega)) ga.le
  have fr2 := rest_fits gc.ok gd.ok (fy.mono (show 3 ≤ 1000000 by omega)) gc.le
  have fr3 := rest_fits gj1.ok gj2.ok (fxy.mono (show 3 + 3 ≤ 1000000 by omega)) gj1.le
  have two := rest_two ga gb gc gd gj2 x0 y0
  simp
  refine callK_of (privacy_Rest (by omega) (by omega) ga.ok gb.ok (R1.x3.mono (by omega))) (by simp [toD_rawc, raw_v]) ?_
  rw [restV_ok R1.ra R1.rb R1.rx]
  simp [setOb, List.filter_cons, ratV, raw_v]
  refine callK_of (privacy_Rest (by omega) (by omega) gc.ok gd.ok (R2.x3.mono (by omega))) (by simp [toD_rawc, raw_v]) ?_
  rw [restV_ok R2.ra R2.rb R2.rx]
  simp [setOb, List.filter_cons, ratV, raw_v]
  refine callK_of (ref02_Mul (R1.x3.mono (by omega)) (R2.x3.mono (by omega))) (by simp [toD_rawc, raw_v]) ?_
  simp [ratV, raw_v]
  refine callK_of (privacy_Rest (x := rawOf (x.q * y.q)) (by omega) (by omega) gj1.ok gj2.ok (rawOf_ok (fxy.mono (by omega)))) (by simp [toD_rawc, raw_v]) ?_
  rw [restV_ok rj1 rj2 (rated_rawOf fxy xy1), rawOf_q]
  simp [setOb, List.filter_cons, ratV, raw_v]
  have fs := fits_add fr1 fr2
  refine callFK_of (ref02_Add (rawOf_ok (fr1.mono (by omega))) (rawOf_ok (fr2.mono (by omega)))) (by simp [toD_rawc, raw_v]) ?_
  rw [rawOf_q, rawOf_q]
  simp [ratV, raw_v]
  refine callFK_of (ref02_Compare (rawOf_ok (fr3.mono (by omega))) (rawOf_ok (fs.mono (by omega)))) (by simp [toD_rawc, raw_v]) ?_
  rw [rawOf_q, rawOf_q]
  simp [cmpR_lez.2 two]
  refine callFK_of law36_alive (by simp) ?_
  simp
end Go.Proofs.YtipbefckimdkkaaGreat
