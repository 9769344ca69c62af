/- PrivacyRests, over data. -/
import Derived.Test.YtipbefckimdkkaaGreatHE
import Derived.Test.YtipbefckimdkkaaGreatGQ
import Derived.Test.YtipbefckimdkkaaGreatHB
/- Functions of the program, as the engine reads them; each is held against the translation. -/
namespace Go.Proofs.YtipbefckimdkkaaGreat.F
open Go Go.Proofs Go.Proofs.YtipbefckimdkkaaGreat.E Go.Proofs.YtipbefckimdkkaaGreat.Q
abbrev law36_PrivacyRests : Nat := 9
def law36_PrivacyRests_c : MFn :=
  ⟨118,(.seq (r [o 5 (.box (.t 2)),o 6 (.mv (.c (.bool false)))] [0,1,5]) (.seq (r [o 21 (.ixArr 2 3 (.t 5) (i 0)),o 22 (.ld (some 3) (.t 21)),o 23 (.ixArr 2 3 (.t 5) (i 1)),o 24 (.ld (some 3) (.t 23)),
  o 7 (.alloc [.bool false,.nils,.nils]),o 8 (.alloc [.bool false,.nils,.nils]),z (.stA 3 (.t 7) (.t 22) [23]),z (.st 3 (.t 8) (.t 24))] [0,1,7,8]) (.seq (.seq (r [o 25 (.mv (.t 0)),
  o 26 (.call 19 [(.t 25)]),o 27 (.un .not (.t 26)),o 28 (.mv (.t 27)),n 29 28 (.mv (.t 1)),n 30 28 (.call 19 [(.t 29)]),n 31 28 (.un .not (.t 30)),o 32 (.pick (.t 28) (.c (.bool true)) (.t 31)),
  o 33 (.mv (.t 32)),n 34 33 (.ld (some 3) (.t 7)),n 35 33 (.call 30 [(.t 34)]),n 36 33 (.un .not (.t 35)),o 37 (.pick (.t 33) (.c (.bool true)) (.t 36)),o 38 (.mv (.t 37)),n 39 38 (.ld (some 3)
  (.t 8)),n 40 38 (.call 30 [(.t 39)]),n 41 38 (.un .not (.t 40)),o 42 (.pick (.t 38) (.c (.bool true)) (.t 41))] [0,1,7,8,42]) (.cond (.t 42) (.seq (r [o 6 (.mv (.c (.bool true)))] [6]) .ret)
  .skip)) (.seq (r [o 44 (.mv (.t 0)),o 45 (.mv (.t 1)),o 46 (.ld (some 3) (.t 7)),o 47 (.call 14 [(.t 44),(.t 45),(.t 46)]),o 43 (.mv (.t 47)),o 48 (.ext (.t 43) 0),o 49 (.ext (.t 43) 1),
  o 9 (.alloc [.bool false,.nils,.nils]),z (.st 3 (.t 9) (.t 48)),o 10 (.mv (.t 49))] [0,1,7,8,9,10]) (.seq (r [o 51 (.mv (.t 0)),o 52 (.mv (.t 1)),o 53 (.ld (some 3) (.t 7)),o 54 (.call 37 [(.t 51),
  (.t 52),(.t 53)]),o 50 (.mv (.t 54)),o 55 (.ext (.t 50) 0),o 56 (.ext (.t 50) 1),o 11 (.alloc [.bool false,.nils,.nils]),z (.st 3 (.t 11) (.t 55)),o 12 (.mv (.t 56))] [0,1,7,8,9,10,11,12])
  (.seq (r [o 58 (.mv (.t 0)),o 59 (.mv (.t 1)),o 60 (.ld (some 3) (.t 7)),o 61 (.ld (some 3) (.t 8)),o 62 (.call 38 [(.t 58),(.t 59),(.t 60),(.t 61)]),o 57 (.mv (.t 62)),o 63 (.ext (.t 57) 0),
  o 64 (.ext (.t 57) 1),o 13 (.mv (.t 63)),o 14 (.mv (.t 64))] [0,1,7,8,9,10,11,12,13,14]) (.seq (r [o 66 (.mv (.t 0)),o 67 (.mv (.t 1)),o 68 (.ld (some 3) (.t 7)),o 69 (.ld (some 3) (.t 8)),
  o 70 (.call 39 [(.t 66),(.t 67),(.t 68),(.t 69)]),o 65 (.mv (.t 70)),o 71 (.ext (.t 65) 0),o 72 (.ext (.t 65) 1),o 15 (.mv (.t 71)),o 16 (.mv (.t 72))] [0,1,7,9,10,11,12,13,14,15,16])
  (.seq (r [o 74 (.mv (.t 0)),o 75 (.mv (.t 1)),o 76 (.ld (some 3) (.t 7)),o 77 (.call 25 [(.t 74),(.t 75),(.t 76)]),o 73 (.mv (.t 77)),o 78 (.ext (.t 73) 0),o 79 (.ext (.t 73) 1),o 17 (.mv (.t 78)),
  o 18 (.mv (.t 79))] [0,1,7,9,10,11,12,13,14,15,16,17,18]) (.seq (r [o 81 (.mv (.t 0)),o 82 (.mv (.t 1)),o 83 (.ld (some 3) (.t 7)),o 84 (.call 40 [(.t 81),(.t 82),(.t 83)]),o 80 (.mv (.t 84)),
  o 85 (.ext (.t 80) 0),o 86 (.ext (.t 80) 1),o 19 (.mv (.t 85)),o 20 (.mv (.t 86))] [9,10,11,12,13,14,15,16,17,18,19,20]) (.seq (r [o 87 (.mv (.t 10)),o 88 (.mv (.t 12)),o 89 (.bin .eql (.t 87)
  (.t 88)),o 90 (.mv (.t 89)),y 91 90 (.ld (some 3) (.t 9)),y 92 90 (.ld (some 3) (.t 11)),y 93 90 (.call 24 [(.t 91),(.t 92)]),o 94 (.pick (.t 90) (.t 93) (.c (.bool false))),o 95 (.mv (.t 94)),
  y 96 95 (.mv (.t 14)),y 97 95 (.mv (.t 16)),y 98 95 (.bin .eql (.t 96) (.t 97)),o 99 (.pick (.t 95) (.t 98) (.c (.bool false))),o 100 (.mv (.t 99)),y 101 100 (.mv (.t 13)),y 102 100 (.mv (.t 15)),
  y 103 100 (.binB .eql (.t 101) (.t 102)),o 104 (.pick (.t 100) (.t 103) (.c (.bool false))),o 105 (.mv (.t 104)),y 106 105 (.mv (.t 18)),y 107 105 (.mv (.t 20)),y 108 105 (.bin .eql (.t 106)
  (.t 107)),o 109 (.pick (.t 105) (.t 108) (.c (.bool false))),o 110 (.mv (.t 109)),y 111 110 (.mv (.t 17)),y 112 110 (.mv (.t 19)),y 113 110 (.call 41 [(.t 111),(.t 112)]),o 114 (.pick (.t 110)
  (.t 113) (.c (.bool false))),o 115 (.mv (.t 114)),y 116 115 (.call 18 []),o 117 (.pick (.t 115) (.t 116) (.c (.bool false))),o 6 (.mv (.t 117))] [6]) .ret)))))))))),[.t 6]⟩
theorem law36_PrivacyRests_ok : cFn Tryz.prog (kps [[0,1,5],[0,1,7,8],[0,1,7,8,42],[6],[0,1,7,8,9,10],[0,1,7,8,9,10,11,12],[0,1,7,8,9,10,11,12,13,14],[0,1,7,9,10,11,12,13,14,15,16],[0,1,7,9,10,11,12,13,14,15,16,17,18],[9,10,11,12,13,14,15,16,17,18,19,20],[6]]) [] 9 = some law36_PrivacyRests_c := by kernel_rfl
end Go.Proofs.YtipbefckimdkkaaGreat.F

namespace Go.Proofs.YtipbefckimdkkaaGreat
open Go Go.Proofs Go.Proofs.YtipbefckimdkkaaGreat.E
set_option linter.unusedSimpArgs false
set_option linter.unusedVariables false
theorem read_rat2 {l : List V} (h : ∃ n, Typed Tryz.prog n T.rat2 l) : ∃ c : Cor, l = corC c ∧ c.r.Ok maxLen ∧ c.s.Ok maxLen := by
  obtain ⟨n, h⟩ := h
  obtain ⟨m, _, h⟩ := E.typed_ar (m := 2) (e := T.ratio) (by kernel_rfl) h
  obtain ⟨a, y, rfl, ha, h⟩ := E.all_cons h
  obtain ⟨b, z, rfl, hb, h⟩ := E.all_cons h
  have := E.all_nil h
  subst this
  obtain ⟨x, rfl, hx⟩ := read_raw ha
  obtain ⟨y, rfl, hy⟩ := read_raw hb
  exact ⟨⟨x, y⟩, by simp [corC], hx, hy⟩
theorem many_few10 {l : List Part} (h : fewP l = true) : ∀ p ∈ l, manyT p.v ≤ 60 := by
  simp only [fewP, Bool.and_eq_true, List.all_eq_true, fewAt, decide_eq_true_eq] at h
  exact fun p hp => (h.2 p hp).1.1
theorem restV_form {a b : List Part} {x : Raw} (oa : ∀ p ∈ a, p.Ok 1000000) (ob : ∀ p ∈ b, p.Ok 1000000) (hx : x.Ok 1000000) (la : a.length ≤ 60) : ∃ (q : Raw) (e : Int), restV a b x = .tup [q.v, .int .i64 e] ∧ q.Ok (2 ^ 31) := by
  unfold restV
  split
  · exact ⟨rawOf (restQ a b x.q), 0, rfl, rawOf_ok ((rest_fits oa ob (Raw.fits hx (by omega)) la).mono (by omega))⟩
  · exact ⟨⟨false, [], []⟩, 1, rfl, ⟨fun _ h => by simp at h, fun _ h => by simp at h, by simp, by simp⟩⟩
theorem holdsV_form (a b : List Part) (x y : Raw) : ∃ (h : Bool) (e : Int), holdsV a b x y = .tup [.bool h, .int .i64 e] := by
  unfold holdsV
  split
  · exact ⟨_, _, rfl⟩
  · exact ⟨_, _, rfl⟩
theorem worstV_form {a b : List Part} {x : Raw} (oa : ∀ p ∈ a, p.Ok 1000000) (la : a.length ≤ 60) : ∃ (w : List Tr) (e : Int), worstV a b x = .tup [tl w, .int .i64 e] ∧ w.length ≤ 60 ∧ ∀ v ∈ w, v.Ok := by
  unfold worstV
  split
  · refine ⟨worstT a b x.q, 0, rfl, ?_, fun v hv => ?_⟩
    · unfold worstT
      rw [List.length_map]
      exact Nat.le_trans (List.length_filter_le _ _) la
    · unfold worstT at hv
      obtain ⟨p, hp, rfl⟩ := List.mem_map.1 hv
      exact (oa p (List.mem_filter.1 hp).1).v
  · exact ⟨[], 1, rfl, by simp, by simp⟩
set_option maxHeartbeats 8000000 in
theorem privacyRests_law {l0 l1 : List (List V)} {l2 : List V} (h0 : ∃ n, Typed Tryz.prog n T.parts [.dat l0]) (h1 : ∃ n, Typed Tryz.prog n T.parts [.dat l1]) (h2 : ∃ n, Typed Tryz.prog n T.rat2 l2) : CallD Tryz.prog F.law36_PrivacyRests [.dat l0, .dat l1, .agg l2] (· = .bool true) := by
  obtain ⟨a, rfl, la, ha⟩ := read_parts h0
  obtain ⟨b, rfl, lb, hb⟩ := read_parts h1
  obtain ⟨c, rfl, hx, hy⟩ := read_rat2 h2
  refine callD_by F.law36_PrivacyRests_ok ?_
  unfold F.law36_PrivacyRests_c
  simp [setOb, List.filter_cons, offs, V.off]
  refine callK_of (law35_Few la ha) (by simp) ?_
  cases fa : fewP a with
  | false => simp
  | true =>
  simp
  refine callK_of (law35_Few lb hb) (by simp) ?_
  cases fb : fewP b with
  | false => simp
  | true =>
  obtain ⟨na, oa3⟩ := fewP_ok fa ha
  obtain ⟨nb, ob3⟩ := fewP_ok fb hb
  have oa : ∀ p ∈ a, p.Ok 1000000 := fun p h => (oa3 p h).mono (by omega)
  have ob : ∀ p ∈ b, p.Ok 1000000 := fun p h => (ob3 p h).mono (by omega)
  simp
  refine callK_of (law36_short (x := c.r)) (by simp [toD_rawc, raw_v]) ?_
  cases s1 : shortB c.r with
  | false => simp
  | true =>
  simp
  refine callK_of (law36_short (x := c.s)) (by simp [toD_rawc, raw_v]) ?_
  cases s2 : shortB c.s with
  | false => simp
  | true =>
  have hx6 : c.r.Ok 1000000 := (short_ok hx s1).mono (by omega)
  have hy6 : c.s.Ok 1000000 := (short_ok hy s2).mono (by omega)
  obtain ⟨q, e1, hq, okq⟩ := restV_form oa ob hx6 (by omega)
  obtain ⟨hb, e2, hh⟩ := holdsV_form a b c.r c.s
  obtain ⟨w, e3, hw, lw, ow⟩ := worstV_form (b := b) (x := c.r) oa (by omega)
  simp
  refine callK_of (privacy_Rest (by omega) (by omega) oa ob hx6) (by simp [toD_rawc, raw_v]) ?_
  rw [hq]
  simp [setOb, List.filter_cons, raw_v]
  refine callK_of (ref36_Rest (by omega) (by omega) oa ob hx6) (by simp [toD_rawc, raw_v]) ?_
  rw [hq]
  simp [setOb, List.filter_cons, raw_v]
  refine callK_of (privacy_Holds (by omega) (by omega) oa ob hx6 hy6) (by simp [toD_rawc, raw_v]) ?_
  rw [hh]
  simp [setOb, List.filter_cons, raw_v]
  refine callK_of (ref36_Holds (by omega) (by omega) oa ob hx6 hy6) (by simp [toD_rawc, raw_v]) ?_
  rw [hh]
  simp [setOb, List.filter_cons, raw_v]
  refine callK_of (privacy_WorstV (by omega) (by omega) oa ob hx6 (many_few10 fa)) (by simp [toD_rawc, raw_v]) ?_
  rw [hw]
  simp [setOb, List.filter_cons, raw_v]
  refine callK_of (ref36_Worst (by omega) (by omega) oa ob hx6) (by simp [toD_rawc, raw_v]) ?_
  rw [hw]
  simp [setOb, List.filter_cons, raw_v]
  refine callK_of (ref02_Same okq okq) (by simp [toD_rawc, raw_v]) ?_
  simp
  refine callK_of (law36_sameValues (by omega) ow) (by simp) ?_
  simp
  refine callK_of law36_alive (by simp) ?_
  simp
end Go.Proofs.YtipbefckimdkkaaGreat
