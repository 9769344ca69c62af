/- PrivacyThird, over data. -/
import Derived.Test.YtipbefckimdkkaaGreatHA
import Derived.Test.YtipbefckimdkkaaGreatGQ
import Derived.Test.YtipbefckimdkkaaGreatHB
/- Functions of the program, as the engine reads them; each is held against the translation. -/
namespace Go.Proofs.YtipbefckimdkkaaGreat.F
open Go Go.Proofs Go.Proofs.YtipbefckimdkkaaGreat.E Go.Proofs.YtipbefckimdkkaaGreat.Q
abbrev law36_PrivacyThird : Nat := 3
def law36_PrivacyThird_c : MFn :=
  ⟨81,(.seq (r [o 3 (.box (.t 0)),o 4 (.box (.t 1)),o 5 (.box (.t 2)),o 6 (.mv (.c (.bool false)))] [3,4,5]) (.seq (.seq (r [o 13 (.fA 0 (.t 3)),o 14 (.ld none (.t 13)),o 15 (.fA 1 (.t 3)),
  o 16 (.ld none (.t 15)),o 17 (.ld (some 3) (.t 4)),o 18 (.call 13 [(.t 14),(.t 16),(.t 17)]),o 19 (.un .not (.t 18)),o 20 (.mv (.t 19)),n 21 20 (.fA 1 (.t 3)),n 22 20 (.ld none (.t 21)),
  n 23 20 (.fA 2 (.t 3)),n 24 20 (.ld none (.t 23)),n 25 20 (.ld (some 3) (.t 5)),n 26 20 (.call 13 [(.t 22),(.t 24),(.t 25)]),n 27 20 (.un .not (.t 26)),o 28 (.pick (.t 20) (.c (.bool true))
  (.t 27))] [3,4,5,28]) (.cond (.t 28) (.seq (r [o 6 (.mv (.c (.bool true)))] [6]) .ret) .skip)) (.seq (r [o 30 (.fA 0 (.t 3)),o 31 (.ld none (.t 30)),o 32 (.fA 1 (.t 3)),o 33 (.ld none (.t 32)),
  o 34 (.ld (some 3) (.t 4)),o 35 (.call 14 [(.t 31),(.t 33),(.t 34)]),o 29 (.mv (.t 35)),o 36 (.ext (.t 29) 0),o 37 (.ext (.t 29) 1),o 7 (.alloc [.bool false,.nils,.nils]),z (.st 3 (.t 7) (.t 36)),
  o 8 (.mv (.t 37))] [3,4,5,7,8]) (.seq (r [o 39 (.fA 1 (.t 3)),o 40 (.ld none (.t 39)),o 41 (.fA 2 (.t 3)),o 42 (.ld none (.t 41)),o 43 (.ld (some 3) (.t 5)),o 44 (.call 14 [(.t 40),(.t 42),
  (.t 43)]),o 38 (.mv (.t 44)),o 45 (.ext (.t 38) 0),o 46 (.ext (.t 38) 1),o 9 (.alloc [.bool false,.nils,.nils]),z (.st 3 (.t 9) (.t 45)),o 10 (.mv (.t 46))] [3,4,5,7,8,9,10])
  (.seq (r [o 48 (.fA 0 (.t 3)),o 49 (.ld none (.t 48)),o 50 (.fA 2 (.t 3)),o 51 (.ld none (.t 50)),o 52 (.ld (some 3) (.t 4)),o 53 (.ld (some 3) (.t 5)),o 54 (.callF 15 [(.t 52),(.t 53)]),
  o 55 (.callF 14 [(.t 49),(.t 51),(.t 54)]),o 47 (.mv (.t 55)),o 56 (.ext (.t 47) 0),o 57 (.ext (.t 47) 1),o 11 (.alloc [.bool false,.nils,.nils]),z (.st 3 (.t 11) (.t 56)),o 12 (.mv (.t 57))] [4,7,
  8,9,10,11,12]) (.seq (r [o 58 (.mv (.t 8)),o 59 (.bin .eql (.t 58) (i 0)),o 60 (.mv (.t 59)),y 61 60 (.mv (.t 10)),y 62 60 (.bin .eql (.t 61) (i 0)),o 63 (.pick (.t 60) (.t 62) (.c (.bool false))),
  o 64 (.mv (.t 63)),y 65 64 (.mv (.t 12)),y 66 64 (.bin .eql (.t 65) (i 0)),o 67 (.pick (.t 64) (.t 66) (.c (.bool false))),o 68 (.mv (.t 67)),y 69 68 (.ld (some 3) (.t 11)),y 70 68 (.ld (some 3)
  (.t 7)),y 71 68 (.ld (some 3) (.t 4)),y 72 68 (.ld (some 3) (.t 9)),y 73 68 (.callF 15 [(.t 71),(.t 72)]),y 74 68 (.callF 17 [(.t 70),(.t 73)]),y 75 68 (.callF 16 [(.t 69),(.t 74)]),
  y 76 68 (.bin .leq (.t 75) (i 0)),o 77 (.pick (.t 68) (.t 76) (.c (.bool false))),o 78 (.mv (.t 77)),y 79 78 (.callF 18 []),o 80 (.pick (.t 78) (.t 79) (.c (.bool false))),o 6 (.mv (.t 80))] [6])
  .ret)))))),[.t 6]⟩
theorem law36_PrivacyThird_ok : cFn Tryz.prog (kps [[3,4,5],[3,4,5,28],[6],[3,4,5,7,8],[3,4,5,7,8,9,10],[4,7,8,9,10,11,12],[6]]) [] 3 = some law36_PrivacyThird_c := by kernel_rfl
end Go.Proofs.YtipbefckimdkkaaGreat.F

namespace Go.Proofs.YtipbefckimdkkaaGreat
open Go Go.Proofs Go.Proofs.YtipbefckimdkkaaGreat.E
set_option linter.unusedSimpArgs false
set_option linter.unusedVariables false
theorem read_listP {n : Nat} {vs : List V} (h : Typed Tryz.prog n T.parts vs) : ∃ ps : List Part, vs = [pl ps] ∧ ps.length ≤ maxLen ∧ ∀ p ∈ ps, p.Ok maxLen := by
  have h0 := h
  obtain ⟨l, rfl, _⟩ := E.typed_sl (e := T.part) (by kernel_rfl) h
  obtain ⟨ps, rfl, h1, h2⟩ := read_parts ⟨n, h0⟩
  exact ⟨ps, rfl, h1, h2⟩
theorem read_four {l : List V} (h : ∃ n, Typed Tryz.prog n T.four l) : ∃ a b c d : List Part, l = [pl a, pl b, pl c, pl d] ∧ (a.length ≤ maxLen ∧ ∀ p ∈ a, p.Ok maxLen) ∧ (b.length ≤ maxLen ∧ ∀ p ∈ b, p.Ok maxLen) ∧ (c.length ≤ maxLen ∧ ∀ p ∈ c, p.Ok maxLen) ∧ (d.length ≤ maxLen ∧ ∀ p ∈ d, p.Ok maxLen) := by
  obtain ⟨n, h⟩ := h
  obtain ⟨m, _, h⟩ := E.typed_st (l := [T.parts, T.parts, T.parts, T.parts]) (by kernel_rfl) h
  obtain ⟨a, y, rfl, ha, h⟩ := E.all_cons h
  obtain ⟨b, z, rfl, hb, h⟩ := E.all_cons h
  obtain ⟨c, w, rfl, hc, h⟩ := E.all_cons h
  obtain ⟨d, u, rfl, hd, h⟩ := E.all_cons h
  have := E.all_nil h
  subst this
  obtain ⟨a, rfl, a1, a2⟩ := read_listP ha
  obtain ⟨b, rfl, b1, b2⟩ := read_listP hb
  obtain ⟨c, rfl, c1, c2⟩ := read_listP hc
  obtain ⟨d, rfl, d1, d2⟩ := read_listP hd
  exact ⟨a, b, c, d, rfl, ⟨a1, a2⟩, ⟨b1, b2⟩, ⟨c1, c2⟩, ⟨d1, d2⟩⟩
theorem read_rat {l : List V} (h : ∃ n, Typed Tryz.prog n T.ratio l) : ∃ x : Raw, l = x.c ∧ x.Ok maxLen := by
  obtain ⟨n, h⟩ := h; exact read_raw h
theorem cmpR_lez {a b : Rat} : cmpR a b ≤ 0 ↔ a ≤ b := cmpR_le
set_option maxHeartbeats 4000000 in
theorem privacyThird_law {l0 l1 l2 : List V} (h0 : ∃ n, Typed Tryz.prog n T.four l0) (h1 : ∃ n, Typed Tryz.prog n T.ratio l1) (h2 : ∃ n, Typed Tryz.prog n T.ratio l2) : CallD Tryz.prog F.law36_PrivacyThird [.agg l0, .agg l1, .agg l2] (· = .bool true) := by
  obtain ⟨a, b, c, d, rfl, ⟨la, ha⟩, ⟨lb, hb⟩, ⟨lc, hc⟩, _⟩ := read_four h0
  obtain ⟨x, rfl, hx⟩ := read_rat h1
  obtain ⟨y, rfl, hy⟩ := read_rat h2
  refine callD_by F.law36_PrivacyThird_ok ?_
  unfold F.law36_PrivacyThird_c
  simp [setOb, List.filter_cons]
  refine callK_of (law36_rated la lb ha hb hx) (by simp [toD_rawc, raw_v]) ?_
  cases r1 : ratedP a b x with
  | false => simp
  | true =>
  simp
  refine callK_of (law36_rated lb lc hb hc hy) (by simp [toD_rawc, raw_v]) ?_
  cases r2 : ratedP b c y with
  | false => simp
  | true =>
  have R1 := rated_of ha hb hx r1
  have R2 := rated_of hb hc hy r2
  have ga := R1.ga
  have gb := R1.gb
  have gc := R2.gb
  have x1 := R1.one
  have y1 := R2.one
  have x0 : 0 ≤ x.q := by grind
  have y0 : 0 ≤ y.q := by grind
  have fx := Raw.fits R1.x3 (by omega)
  have fy := Raw.fits R2.x3 (by omega)
  have fxy := fits_mul fx fy (by omega)
  have xy1 : 1 ≤ x.q * y.q := by
    have := mul_le_l x0 y1
    grind
  have fr1 := rest_fits ga.ok gb.ok (fx.mono (show 3 ≤ 1000000 by omega)) ga.le
  have fr2 := rest_fits gb.ok gc.ok (fy.mono (show 3 ≤ 1000000 by omega)) gb.le
  have fr3 := rest_fits ga.ok gc.ok (fxy.mono (show 3 + 3 ≤ 1000000 by omega)) ga.le
  have third := rest_third ga gb gc x0 y0
  have la' := R1.na
  have lb' := R1.nb
  have lc' := R2.nb
  simp
  refine callK_of (privacy_Rest (by omega) (by omega) ga.ok gb.ok (R1.x3.mono (by omega))) (by simp [toD_rawc, raw_v]) ?_
  rw [restV_ok R1.ra R1.rb R1.rx]
  simp [setOb, List.filter_cons, ratV, raw_v]
  refine callK_of (privacy_Rest (by omega) (by omega) gb.ok gc.ok (R2.x3.mono (by omega))) (by simp [toD_rawc, raw_v]) ?_
  rw [restV_ok R2.ra R2.rb R2.rx]
  simp [setOb, List.filter_cons, ratV, raw_v]
  refine callFK_of (ref02_Mul (R1.x3.mono (by omega)) (R2.x3.mono (by omega))) (by simp [toD_rawc, raw_v]) ?_
  simp [ratV, raw_v]
  refine callFK_of (privacy_Rest (x := rawOf (x.q * y.q)) (by omega) (by omega) ga.ok gc.ok (rawOf_ok (fxy.mono (by omega)))) (by simp [toD_rawc, raw_v]) ?_
  rw [restV_ok R1.ra R2.rb (rated_rawOf fxy xy1), rawOf_q]
  simp [setOb, List.filter_cons, ratV, raw_v]
  refine callFK_of (ref02_Mul (R1.x3.mono (by omega)) (rawOf_ok (fr2.mono (by omega)))) (by simp [toD_rawc, raw_v]) ?_
  rw [rawOf_q]
  simp [ratV, raw_v]
  have fp := fits_mul fx fr2 (by omega)
  refine callFK_of (ref02_Add (rawOf_ok (fr1.mono (by omega))) (rawOf_ok (fp.mono (by omega)))) (by simp [toD_rawc, raw_v]) ?_
  rw [rawOf_q, rawOf_q]
  simp [ratV, raw_v]
  have fs := fits_add fr1 fp
  refine callFK_of (ref02_Compare (rawOf_ok (fr3.mono (by omega))) (rawOf_ok (fs.mono (by omega)))) (by simp [toD_rawc, raw_v]) ?_
  rw [rawOf_q, rawOf_q]
  simp [cmpR_lez.2 third]
  refine callFK_of law36_alive (by simp) ?_
  simp
end Go.Proofs.YtipbefckimdkkaaGreat
