/- PrivacyFalls, over data. -/
import Derived.Test.YtipbefckimdkkaaGreatJLPC
import Derived.Test.YtipbefckimdkkaaGreatJDRs4
import Derived.Test.YtipbefckimdkkaaGreatJLPA
import Derived.Test.YtipbefckimdkkaaGreatJLPR
import Derived.Test.YtipbefckimdkkaaGreatGS
namespace Go.Proofs.YtipbefckimdkkaaGreat.F
open Go Go.Proofs Go.Proofs.YtipbefckimdkkaaGreat.E Go.Proofs.YtipbefckimdkkaaGreat.Q
abbrev law36_PrivacyFalls : Nat := 10
def law36_PrivacyFalls_c : MFn := ⟨146,(.seq (r [o 5 (.box (.t 2)),o 6 (.mv (.c (.bool false)))] [0,1,5]) (.seq (r [o 23 (.ixArr 2 3 (.t 5) (i 0)),o 24 (.ld (some 3) (.t 23)),o 25 (.ixArr 2 3 (.t 5) (i 1)),o 26 (.ld (some 3) (.t 25)),o 7 (.alloc zR),o 8 (.alloc zR),z (.stA 3 (.t 7) (.t 24) [25]),z (.st 3 (.t 8) (.t 26))] [0,1,7,8]) (.seq (.seq (r [o 27 (.mv (.t 0)),o 28 (.mv (.t 1)),o 29 (.ld (some 3) (.t 7)),o 30 (.call 13 [(.t 27),(.t 28),(.t 29)]),o 31 (.un .not (.t 30)),o 32 (.mv (.t 31)),n 33 32 (.mv (.t 0)),n 34 32 (.mv (.t 1)),n 35 32 (.ld (some 3) (.t 8)),n 36 32 (.call 13 [(.t 33),(.t 34),(.t 35)]),n 37 32 (.un .not (.t 36)),o 38 (.pick (.t 32) (.c (.bool true)) (.t 37))] [0,1,7,8,38]) (.cond (.t 38) (.seq (r [o 6 (.mv (.c (.bool true)))] [6]) .ret) .skip)) (.seq (r [o 40 (.mv (.t 0)),o 41 (.mv (.t 1)),o 42 (.call 22 [(.t 40),(.t 41)]),o 39 (.mv (.t 42)),o 43 (.ext (.t 39) 0),o 44 (.ext (.t 39) 1),o 9 (.mv (.t 43)),o 10 (.mv (.t 44))] [0,1,7,8,9,10]) (.seq (r [o 46 (.mv (.t 0)),o 47 (.mv (.t 1)),o 48 (.ld (some 3) (.t 7)),o 49 (.call 14 [(.t 46),(.t 47),(.t 48)]),o 45 (.mv (.t 49)),o 50 (.ext (.t 45) 0),o 51 (.ext (.t 45) 1),o 11 (.alloc zR),z (.st 3 (.t 11) (.t 50)),o 12 (.mv (.t 51))] [0,1,7,8,9,10,11,12]) (.seq (r [o 53 (.mv (.t 9)),o 54 (.ld (some 3) (.t 7)),o 55 (.call 31 [(.t 53),(.t 54)]),o 52 (.mv (.t 55)),o 56 (.ext (.t 52) 0),o 57 (.ext (.t 52) 1),o 13 (.alloc zR),z (.st 3 (.t 13) (.t 56)),o 14 (.mv (.t 57))] [0,1,7,8,10,11,12,13,14]) (.seq (r [o 59 (.mv (.t 0)),o 60 (.mv (.t 1)),o 61 (.ld (some 3) (.t 7)),o 62 (.ld (some 3) (.t 8)),o 63 (.call 15 [(.t 61),(.t 62)]),o 64 (.call 14 [(.t 59),(.t 60),(.t 63)]),o 58 (.mv (.t 64)),o 65 (.ext (.t 58) 0),o 66 (.ext (.t 58) 1),o 15 (.alloc zR),z (.st 3 (.t 15) (.t 65)),o 16 (.mv (.t 66))] [0,1,7,10,11,12,13,14,15,16]) (.seq (r [o 68 (.mv (.t 0)),o 69 (.mv (.t 1)),o 70 (.call 42 []),o 71 (.call 14 [(.t 68),(.t 69),(.t 70)]),o 67 (.mv (.t 71)),o 72 (.ext (.t 67) 0),o 73 (.ext (.t 67) 1),o 17 (.alloc zR),z (.st 3 (.t 17) (.t 72)),o 18 (.mv (.t 73))] [0,1,7,10,11,12,13,14,15,16,17,18]) (.seq (r [o 75 (.mv (.t 0)),o 76 (.mv (.t 1)),o 77 (.call 43 [(.t 75),(.t 76)]),o 74 (.mv (.t 77)),o 78 (.ext (.t 74) 0),o 79 (.ext (.t 74) 1),o 19 (.alloc zR),z (.st 3 (.t 19) (.t 78)),o 20 (.mv (.t 79))] [0,1,7,10,11,12,13,14,15,16,17,18,19,20]) (.seq (.seq (r [o 80 (.mv (.t 10)),o 81 (.bin .neq (.t 80) (i 0)),o 82 (.mv (.t 81)),n 83 82 (.mv (.t 12)),n 84 82 (.bin .neq (.t 83) (i 0)),o 85 (.pick (.t 82) (.c (.bool true)) (.t 84)),o 86 (.mv (.t 85)),n 87 86 (.mv (.t 14)),n 88 86 (.bin .neq (.t 87) (i 0)),o 89 (.pick (.t 86) (.c (.bool true)) (.t 88)),o 90 (.mv (.t 89)),n 91 90 (.mv (.t 16)),n 92 90 (.bin .neq (.t 91) (i 0)),o 93 (.pick (.t 90) (.c (.bool true)) (.t 92)),o 94 (.mv (.t 93)),n 95 94 (.mv (.t 18)),n 96 94 (.bin .neq (.t 95) (i 0)),o 97 (.pick (.t 94) (.c (.bool true)) (.t 96)),o 98 (.mv (.t 97)),n 99 98 (.mv (.t 20)),n 100 98 (.bin .neq (.t 99) (i 0)),o 101 (.pick (.t 98) (.c (.bool true)) (.t 100))] [0,1,7,11,13,15,17,19,101]) (.cond (.t 101) (.seq (r [o 6 (.mv (.c (.bool false)))] [6]) .ret) .skip)) (.seq (r [o 103 (.mv (.t 0)),o 104 (.mv (.t 1)),o 105 (.call 20 [(.t 103),(.t 104)]),o 102 (.mv (.t 105)),o 106 (.ext (.t 102) 0),o 107 (.ext (.t 102) 1),o 21 (.alloc zR),z (.st 3 (.t 21) (.t 106)),o 22 (.mv (.t 107))] [7,11,13,15,17,19,21,22]) (.seq (.seq (r [o 108 (.mv (.t 22)),o 109 (.bin .eql (.t 108) (i 0)),o 110 (.mv (.t 109)),y 111 110 (.ld (some 3) (.t 7)),y 112 110 (.ld (some 3) (.t 21)),y 113 110 (.callF 16 [(.t 111),(.t 112)]),y 114 110 (.bin .geq (.t 113) (i 0)),y 115 110 (.ld (some 3) (.t 11)),y 116 110 (.callF 44 [(.t 115)]),y 117 110 (.bin .eql (.t 116) (i 0)),y 118 110 (.binB .neq (.t 114) (.t 117)),o 119 (.pick (.t 110) (.t 118) (.c (.bool false))),o 120 (.mv (.t 119)),n 121 120 (.mv (.t 22)),n 122 120 (.bin .neq (.t 121) (i 0)),n 123 120 (.mv (.t 122)),y 124 123 (.ld (some 3) (.t 11)),y 125 123 (.callF 44 [(.t 124)]),y 126 123 (.bin .eql (.t 125) (i 0)),n 127 120 (.pick (.t 123) (.t 126) (.c (.bool false))),o 128 (.pick (.t 120) (.c (.bool true)) (.t 127))] [11,13,15,17,19,128]) (.cond (.t 128) (.seq (r [o 6 (.mv (.c (.bool false)))] [6]) .ret) .skip)) (.seq (r [o 129 (.ld (some 3) (.t 13)),o 130 (.ld (some 3) (.t 11)),o 131 (.call 24 [(.t 129),(.t 130)]),o 132 (.mv (.t 131)),y 133 132 (.ld (some 3) (.t 15)),y 134 132 (.ld (some 3) (.t 11)),y 135 132 (.call 16 [(.t 133),(.t 134)]),y 136 132 (.bin .leq (.t 135) (i 0)),o 137 (.pick (.t 132) (.t 136) (.c (.bool false))),o 138 (.mv (.t 137)),y 139 138 (.ld (some 3) (.t 17)),y 140 138 (.ld (some 3) (.t 19)),y 141 138 (.call 24 [(.t 139),(.t 140)]),o 142 (.pick (.t 138) (.t 141) (.c (.bool false))),o 143 (.mv (.t 142)),y 144 143 (.call 18 []),o 145 (.pick (.t 143) (.t 144) (.c (.bool false))),o 6 (.mv (.t 145))] [6]) .ret))))))))))))),[.t 6]⟩
theorem law36_PrivacyFalls_ok : cFn Tryz.prog (kps [[0,1,5],[0,1,7,8],[0,1,7,8,38],[6],[0,1,7,8,9,10],[0,1,7,8,9,10,11,12],[0,1,7,8,10,11,12,13,14],[0,1,7,10,11,12,13,14,15,16],[0,1,7,10,11,12,13,14,15,16,17,18],[0,1,7,10,11,12,13,14,15,16,17,18,19,20],[0,1,7,11,13,15,17,19,101],[6],[7,11,13,15,17,19,21,22],[11,13,15,17,19,128],[6],[6]]) [] 10 = some law36_PrivacyFalls_c := by kernel_rfl
end Go.Proofs.YtipbefckimdkkaaGreat.F

namespace Go.Proofs.YtipbefckimdkkaaGreat
open Go Go.Proofs Go.Proofs.YtipbefckimdkkaaGreat.E
set_option linter.unusedSimpArgs false
set_option linter.unusedVariables false
theorem rest_fitsK {a b : List Part} {K R : Nat} (k1 : 1 ≤ K) (r1 : 1 ≤ R) (oa : ∀ p ∈ a, p.Ok K) (ob : ∀ p ∈ b, p.Ok K) {r : Rat} (hr : Fits r R) (hl : a.length ≤ 10) : Fits (restQ a b r) (1 + 10 * (2 * K + R + 2)) := by
 refine (sumBy_fits (k := K + (R + K) + 1) _ fun p hp => posR_fits (fits_sub (Raw.fits (oa p hp).w k1) (fits_mul hr (wtQ_fitsK k1 ob p.v) r1)) (by omega)).mono ?_
 have : a.length * (K + (R + K) + 1 + 1) ≤ 10 * (K + (R + K) + 1 + 1) := Nat.mul_le_mul_right _ hl
 omega
theorem rates_fits6 {a b : List Part} (oa : ∀ p ∈ a, p.Ok 3) (ob : ∀ p ∈ b, p.Ok 3) {x : Rat} (h : x ∈ ratesQ a b) : Fits x 6 := by
 rcases rates_mem h with rfl | ⟨h, _⟩
 ·exact fits_one.mono (by omega)
 ·obtain ⟨p, hp, rfl⟩ := rts_mem h
  exact fits_div (Raw.fits (oa p hp).w (by omega)) (wtQ_fitsK (by omega) ob p.v) (by omega)
theorem curve_ok3 {a b : List Part} (oa : ∀ p ∈ a, p.Ok 3) (ob : ∀ p ∈ b, p.Ok 3) (la : a.length ≤ 10) : ∀ c ∈ curveQ a b, c.r.Ok 1000 ∧ c.s.Ok 1000 := fun c hc => by
 obtain ⟨r, hr, rfl⟩ := List.mem_map.1 hc
 have fr := rates_fits6 oa ob hr
 exact ⟨rawOf_ok (fr.mono (by omega)), rawOf_ok ((rest_fitsK (by omega) (by omega) oa ob fr la).mono (by omega))⟩
set_option maxHeartbeats 16000000 in
theorem privacyFalls_law {l0 l1 : List (List V)} {l2 : List V} (h0 : ∃ n, Typed Tryz.prog n T.parts [.dat l0]) (h1 : ∃ n, Typed Tryz.prog n T.parts [.dat l1]) (h2 : ∃ n, Typed Tryz.prog n T.rat2 l2) : CallD Tryz.prog F.law36_PrivacyFalls [.dat l0, .dat l1, .agg l2] (· = .bool true) := by
 obtain ⟨a, rfl, la, ha⟩ := read_parts h0
 obtain ⟨b, rfl, lb, hb⟩ := read_parts h1
 obtain ⟨c, rfl, hx, hy⟩ := read_rat2 h2
 refine callD_by F.law36_PrivacyFalls_ok ?_
 unfold F.law36_PrivacyFalls_c
 simp [setOb, List.filter_cons, offs, V.off]
 refine callK_of (law36_rated la lb ha hb hx) (by simp [toD_rawc, raw_v]) ?_
 cases r1 : ratedP a b c.r with
 | false => simp
 | true =>
 simp
 refine callK_of (law36_rated la lb ha hb hy) (by simp [toD_rawc, raw_v]) ?_
 cases r2 : ratedP a b c.s with
 | false => simp
 | true =>
 have R := rated_of ha hb hx r1
 have R2 := rated_of ha hb hy r2
 have ga := R.ga
 have gb := R.gb
 have na := R.na
 have nb := R.nb
 have x1 := R.one
 have y1 := R2.one
 have oa := ga.ok
 have ob := gb.ok
 have oa3 := R.oa
 have ob3 := R.ob
 have sa : Sm a := fun p h => (oa3 p h).mono (by omega)
 have sb : Sm b := fun p h => (ob3 p h).mono (by omega)
 have x3 := R.x3
 have y3 := R2.x3
 have fx := Raw.fits x3 (by omega)
 have fy := Raw.fits y3 (by omega)
 have fxy : Fits (c.r.q * c.s.q) 6 := fits_mul fx fy (by omega)
 have xy1 : 1 ≤ c.r.q * c.s.q := by
  have h1 := Rat.mul_le_mul_of_nonneg_left y1 (show (0 : Rat) ≤ c.r.q by grind)
  grind
 have xy2 : c.r.q ≤ c.r.q * c.s.q := by
  have h1 := Rat.mul_le_mul_of_nonneg_left y1 (show (0 : Rat) ≤ c.r.q by grind)
  grind
 have f1 : Fits (restQ a b c.r.q) 1000 := (rest_fitsK (by omega) (by omega) oa3 ob3 fx na).mono (by omega)
 have f2 : Fits (restQ a b (c.r.q * c.s.q)) 1000 := (rest_fitsK (by omega) (by omega) oa3 ob3 fxy na).mono (by omega)
 have f3 : Fits (restQ a b 1) 1000 := (rest_fitsK (by omega) (by omega) oa3 ob3 fits_one na).mono (by omega)
 have k1 : (rawOf (restQ a b c.r.q)).Ok (2 ^ 31) := rawOf_ok (f1.mono (by omega))
 have k2 : (rawOf (restQ a b (c.r.q * c.s.q))).Ok (2 ^ 31) := rawOf_ok (f2.mono (by omega))
 have k3 : (rawOf (restQ a b 1)).Ok (2 ^ 31) := rawOf_ok (f3.mono (by omega))
 have hcv : curveV a b = .tup [cl (curveQ a b), .int .i64 0] := by unfold curveV; rw [R.ra, R.rb]; rfl
 have hr1 := restV_ok R.ra R.rb R.rx
 have hr2 := restV_ok R.ra R.rb (rated_rawOf fxy xy1)
 have hr3 := restV_ok R.ra R.rb (rated_rawOf fits_one (Rat.le_refl))
 rw [rawOf_q] at hr2 hr3
 simp
 refine callK_of (privacy_Curve (by omega) (by omega) sa sb) (by simp) ?_
 rw [hcv]
 simp
 refine callK_of (privacy_Rest (by omega) (by omega) oa ob (x3.mono (by omega))) (by simp [toD_rawc, raw_v]) ?_
 rw [hr1]
 simp [setOb, List.filter_cons, ratV, raw_v]
 refine callK_rel (privacy_At (K := 1000) (by omega) (by omega) (by have := rates_len a b; simp [curveQ]; omega) (curve_ok3 oa3 ob3 na) (x3.mono (by omega))) (by simp [toD_rawc, toD_corC, raw_v]) ?_
 intro r hr
 obtain ⟨v, hat, rfl⟩ := (atR_ok (curve_corners sa sb) R.rx r).1 hr
 rw [curve_at ga gb hat]
 simp [setOb, List.filter_cons, ratV, raw_v]
 refine callK_of (ref02_Mul (x3.mono (by omega)) (y3.mono (by omega))) (by simp [toD_rawc, raw_v]) ?_
 simp [setOb, List.filter_cons, ratV, raw_v]
 refine callK_of (privacy_Rest (by omega) (by omega) oa ob (x := rawOf (c.r.q * c.s.q)) (rawOf_ok (fxy.mono (by omega)))) (by simp [toD_rawc, raw_v]) ?_
 rw [hr2]
 simp [setOb, List.filter_cons, ratV, raw_v]
 refine callK_of ref02_One (by simp) ?_
 simp [ratV, raw_v]
 refine callK_of (privacy_Rest (by omega) (by omega) oa ob (x := rawOf 1) (rawOf_ok (fits_one.mono (by omega)))) (by simp [toD_rawc, raw_v]) ?_
 rw [hr3]
 simp [setOb, List.filter_cons, ratV, raw_v]
 refine callK_of (couple_Apart (by omega) (by omega) oa ob) (by simp) ?_
 rw [apartV_good R.ra R.rb, ← rest_apart]
 simp [setOb, List.filter_cons, ratV, raw_v]
 refine callK_of (privacy_Rate (by omega) (by omega) sa sb) (by simp) ?_
 have hfall : cmpR (restQ a b (c.r.q * c.s.q)) (restQ a b c.r.q) ≤ 0 := cmpR_le.2 (rest_falls gb xy2)
 have hsg : sgnR (restQ a b c.r.q) = 0 ↔ restQ a b c.r.q = 0 := by unfold sgnR; exact cmpR_eq
 unfold rateV
 rw [R.ra, R.rb]
 cases hal : allQ a b with
 | false =>
   have hne := rest_some ga hal c.r.q
   simp [setOb, List.filter_cons, raw_v]
   refine callFK_of (ref02_Sign (k1.mono (by omega))) (by simp [toD_rawc, raw_v]) ?_
   rw [rawOf_q]
   have hs : ¬ sgnR (restQ a b c.r.q) = 0 := fun h => hne (hsg.1 h)
   simp [hs]
   refine callK_of (ref02_Same k1 k1) (by simp [toD_rawc, raw_v]) ?_
   simp
   refine callK_of (ref02_Compare k2 k1) (by simp [toD_rawc, raw_v]) ?_
   rw [rawOf_q, rawOf_q]
   simp [hfall]
   refine callK_of (ref02_Same k3 k3) (by simp [toD_rawc, raw_v]) ?_
   simp
   refine callK_of law36_alive (by simp) ?_
   simp
 | true =>
   have hz := rest_zero ga gb hal x1
   have fm := maxQ_fits (a := a) (b := b) sa sb
   simp [setOb, List.filter_cons, ratV, raw_v]
   refine callFK_of (ref02_Compare (x3.mono (by omega)) (rawOf_ok (fm.mono (by omega)))) (by simp [toD_rawc, raw_v]) ?_
   rw [rawOf_q]
   simp
   refine callFK_of (ref02_Sign (k1.mono (by omega))) (by simp [toD_rawc, raw_v]) ?_
   rw [rawOf_q]
   have hb2 : decide (0 ≤ cmpR c.r.q (maxQ (rtsQ a b))) = decide (sgnR (restQ a b c.r.q) = 0) := by
    rw [decide_eq_decide, hsg, hz, cmpR_nn]
   simp [hb2]
   refine callK_of (ref02_Same k1 k1) (by simp [toD_rawc, raw_v]) ?_
   simp
   refine callK_of (ref02_Compare k2 k1) (by simp [toD_rawc, raw_v]) ?_
   rw [rawOf_q, rawOf_q]
   simp [hfall]
   refine callK_of (ref02_Same k3 k3) (by simp [toD_rawc, raw_v]) ?_
   simp
   refine callK_of law36_alive (by simp) ?_
   simp
end Go.Proofs.YtipbefckimdkkaaGreat
