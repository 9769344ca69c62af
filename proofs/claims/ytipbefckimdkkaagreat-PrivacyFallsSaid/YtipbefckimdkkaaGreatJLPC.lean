/- PrivacyCurves, over data. -/
import Derived.Test.YtipbefckimdkkaaGreatII
import Derived.Test.YtipbefckimdkkaaGreatGQ
import Derived.Test.YtipbefckimdkkaaGreatHB
namespace Go.Proofs.YtipbefckimdkkaaGreat.F
open Go Go.Proofs Go.Proofs.YtipbefckimdkkaaGreat.E Go.Proofs.YtipbefckimdkkaaGreat.Q
abbrev law36_PrivacyCurves : Nat := 4
def law36_PrivacyCurves_c : MFn := ⟨100,(.seq (r [o 4 (.mv (.c (.bool false)))] [0,1]) (.seq (.seq (r [o 14 (.mv (.t 0)),o 15 (.call 19 [(.t 14)]),o 16 (.un .not (.t 15)),o 17 (.mv (.t 16)),n 18 17 (.mv (.t 1)),n 19 17 (.call 19 [(.t 18)]),n 20 17 (.un .not (.t 19)),o 21 (.pick (.t 17) (.c (.bool true)) (.t 20))] [0,1,21]) (.cond (.t 21) (.seq (r [o 4 (.mv (.c (.bool true)))] [4]) .ret) .skip)) (.seq (r [o 23 (.mv (.t 0)),o 24 (.mv (.t 1)),o 25 (.call 20 [(.t 23),(.t 24)]),o 22 (.mv (.t 25)),o 26 (.ext (.t 22) 0),o 27 (.ext (.t 22) 1),o 5 (.alloc zR),z (.st 3 (.t 5) (.t 26)),o 6 (.mv (.t 27))] [0,1,5,6]) (.seq (r [o 29 (.mv (.t 0)),o 30 (.mv (.t 1)),o 31 (.call 21 [(.t 29),(.t 30)]),o 28 (.mv (.t 31)),o 32 (.ext (.t 28) 0),o 33 (.ext (.t 28) 1),o 7 (.alloc zR),z (.st 3 (.t 7) (.t 32)),o 8 (.mv (.t 33))] [0,1,5,6,7,8]) (.seq (r [o 35 (.mv (.t 0)),o 36 (.mv (.t 1)),o 37 (.call 22 [(.t 35),(.t 36)]),o 34 (.mv (.t 37)),o 38 (.ext (.t 34) 0),o 39 (.ext (.t 34) 1),o 9 (.mv (.t 38)),o 10 (.mv (.t 39))] [0,1,5,6,7,8,9,10]) (.seq (r [o 41 (.mv (.t 0)),o 42 (.mv (.t 1)),o 43 (.call 23 [(.t 41),(.t 42)]),o 40 (.mv (.t 43)),o 44 (.ext (.t 40) 0),o 45 (.ext (.t 40) 1),o 11 (.mv (.t 44)),o 12 (.mv (.t 45))] [5,6,7,8,9,10,11,12]) (.seq (.seq (r [o 46 (.mv (.t 6)),o 47 (.mv (.t 8)),o 48 (.bin .neq (.t 46) (.t 47)),o 49 (.mv (.t 48)),n 50 49 (.ld (some 3) (.t 5)),n 51 49 (.ld (some 3) (.t 7)),n 52 49 (.call 24 [(.t 50),(.t 51)]),n 53 49 (.un .not (.t 52)),o 54 (.pick (.t 49) (.c (.bool true)) (.t 53)),o 55 (.mv (.t 54)),n 56 55 (.mv (.t 10)),n 57 55 (.mv (.t 12)),n 58 55 (.bin .neq (.t 56) (.t 57)),o 59 (.pick (.t 55) (.c (.bool true)) (.t 58)),o 60 (.mv (.t 59)),n 61 60 (.mv (.t 9)),n 62 60 (.lenS (.t 61)),n 63 60 (.mv (.t 11)),n 64 60 (.lenS (.t 63)),n 65 60 (.bin .neq (.t 62) (.t 64)),o 66 (.pick (.t 60) (.c (.bool true)) (.t 65))] [9,11,66]) (.cond (.t 66) (.seq (r [o 4 (.mv (.c (.bool false)))] [4]) .ret) .skip)) (.seq (.seq (r [o 67 (.mv (.t 9)),o 68 (.lenS (.t 67)),o 69 (.mv (i 0))] [9,11,68,69]) (.block 0 (.loop (.seq (r [o 70 (.bin .lss (.t 69) (.t 68))] [9,11,68,69,70]) (.seq (.cond (.t 70) .skip (.exit 0)) (.seq (.block 1 (.seq (r [o 71 (.mv (.t 69)),o 13 (.mv (.t 71))] [9,11,13,68,69]) (.seq (r [o 72 (.mv (.t 9)),o 73 (.mv (.t 13)),o 74 (.ixA 6 (.t 72) (.t 73)),o 75 (.fA 0 (.t 74)),o 76 (.ld (some 3) (.t 75)),o 77 (.mv (.t 11)),o 78 (.mv (.t 13)),o 79 (.ixA 6 (.t 77) (.t 78)),o 80 (.fA 0 (.t 79)),o 81 (.ld (some 3) (.t 80)),o 82 (.callF 24 [(.t 76),(.t 81)]),o 83 (.un .not (.t 82)),o 84 (.mv (.t 83)),n 85 84 (.mv (.t 9)),n 86 84 (.mv (.t 13)),n 87 84 (.ixA 6 (.t 85) (.t 86)),n 88 84 (.fA 3 (.t 87)),n 89 84 (.ld (some 3) (.t 88)),n 90 84 (.mv (.t 11)),n 91 84 (.mv (.t 13)),n 92 84 (.ixA 6 (.t 90) (.t 91)),n 93 84 (.fA 3 (.t 92)),n 94 84 (.ld (some 3) (.t 93)),n 95 84 (.callF 24 [(.t 89),(.t 94)]),n 96 84 (.un .not (.t 95)),o 97 (.pick (.t 84) (.c (.bool true)) (.t 96))] [9,11,68,69,97]) (.cond (.t 97) (.seq (r [o 4 (.mv (.c (.bool false)))] [4]) .ret) .skip)))) (r [o 98 (.bin .add (.t 69) (i 1)),o 69 (.mv (.t 98))] [9,11,68,69]))))))) (.seq (r [o 99 (.call 18 []),o 4 (.mv (.t 99))] [4]) .ret))))))))),[.t 4]⟩
theorem law36_PrivacyCurves_ok : cFn Tryz.prog (kps [[0,1],[0,1,21],[4],[0,1,5,6],[0,1,5,6,7,8],[0,1,5,6,7,8,9,10],[5,6,7,8,9,10,11,12],[9,11,66],[4],[9,11,68,69],[9,11,68,69,70],[9,11,13,68,69],[9,11,68,69,97],[4],[9,11,68,69],[4]]) [] 4 = some law36_PrivacyCurves_c := by kernel_rfl
end Go.Proofs.YtipbefckimdkkaaGreat.F

namespace Go.Proofs.YtipbefckimdkkaaGreat
open Go Go.Proofs Go.Proofs.YtipbefckimdkkaaGreat.E
set_option linter.unusedSimpArgs false
set_option linter.unusedVariables false
theorem zero_okR : (⟨false, [], []⟩ : Raw).Ok (2 ^ 31) := ⟨fun _ h => by simp at h, fun _ h => by simp at h, by simp, by simp⟩
theorem rateV_form {a b : List Part} (sa : Sm a) (sb : Sm b) : ∃ (q : Raw) (e : Int), rateV a b = .tup [q.v, .int .i64 e] ∧ q.Ok (2 ^ 31) := by
 unfold rateV
 split
 ·split
  ·exact ⟨rawOf (maxQ (rtsQ a b)), 0, rfl, rawOf_ok ((maxQ_fits sa sb).mono (by omega))⟩
  ·exact ⟨⟨false, [], []⟩, 3, rfl, zero_okR⟩
 ·exact ⟨⟨false, [], []⟩, 1, rfl, zero_okR⟩
theorem curve_ok {a b : List Part} (sa : Sm a) (sb : Sm b) (la : a.length ≤ 60) : ∀ c ∈ curveQ a b, c.r.Ok 1000000 ∧ c.s.Ok (2 ^ 31) := fun c hc => by
 obtain ⟨r, hr, rfl⟩ := List.mem_map.1 hc
 have fr : Fits r 1000000 := (rates_fits sa sb hr).mono (by omega)
 exact ⟨rawOf_ok fr, rawOf_ok ((rest_fits sa.ok sb.ok fr la).mono (by omega))⟩
theorem curveV_form {a b : List Part} (sa : Sm a) (sb : Sm b) (la : a.length ≤ 60) : ∃ (l : List Cor) (e : Int), curveV a b = .tup [cl l, .int .i64 e] ∧ l.length ≤ 61 ∧ ∀ c ∈ l, c.r.Ok (2 ^ 31) ∧ c.s.Ok (2 ^ 31) := by
 unfold curveV
 split
 ·refine ⟨curveQ a b, 0, rfl, ?_, fun c hc => ⟨(curve_ok sa sb la c hc).1.mono (by omega), (curve_ok sa sb la c hc).2⟩⟩
  have := rates_len a b
  simp [curveQ]; omega
 ·exact ⟨[], 1, rfl, by simp, by simp⟩
set_option maxHeartbeats 8000000 in
theorem privacyCurves_law {l0 l1 : List (List V)} (h0 : ∃ n, Typed Tryz.prog n T.parts [.dat l0]) (h1 : ∃ n, Typed Tryz.prog n T.parts [.dat l1]) : CallD Tryz.prog F.law36_PrivacyCurves [.dat l0, .dat l1] (· = .bool true) := by
 obtain ⟨a, rfl, la, ha⟩ := read_parts h0
 obtain ⟨b, rfl, lb, hb⟩ := read_parts h1
 refine callD_by F.law36_PrivacyCurves_ok ?_
 unfold F.law36_PrivacyCurves_c
 simp
 refine callK_of (law35_Few la ha) (by simp) ?_
 cases fa : fewP a with
 | false => simp
 | true =>
 simp
 refine callK_of (law35_Few lb hb) (by simp) ?_
 cases fb : fewP b with
 | false => simp
 | true =>
 obtain ⟨na, oa3⟩ := fewP_ok fa ha
 obtain ⟨nb, ob3⟩ := fewP_ok fb hb
 have sa : Sm a := fun p h => (oa3 p h).mono (by omega)
 have sb : Sm b := fun p h => (ob3 p h).mono (by omega)
 obtain ⟨q, e1, hq, okq⟩ := rateV_form sa sb
 obtain ⟨l, e2, hl, ll, okl⟩ := curveV_form sa sb (by omega)
 simp
 refine callK_of (privacy_Rate (by omega) (by omega) sa sb) (by simp) ?_
 rw [hq]
 simp [setOb, List.filter_cons, raw_v]
 refine callK_of (ref36_Rate (by omega) (by omega) sa sb) (by simp) ?_
 rw [hq]
 simp [setOb, List.filter_cons, raw_v]
 refine callK_of (privacy_Curve (by omega) (by omega) sa sb) (by simp) ?_
 rw [hl]
 simp
 refine callK_of (ref36_Curve (by omega) (by omega) sa sb) (by simp) ?_
 rw [hl]
 simp
 refine callK_of (ref02_Same okq okq) (by simp [toD_rawc, raw_v]) ?_
 simp
 refine wm_loop (fun g : Nat => ((((Sl.empty.set 69 (.int .i64 g)).set 68 (.int .i64 l.length)).set 11 (cl l)).set 9 (cl l), [])) (fun g => g ≤ l.length) (fun g => l.length - g) 0 (by simp) ?_ ?_
 ·refine weak_obs ?_ (by simp) (by repeat (first | exact sin_empty | refine sin_set (by simp [V.within]) ?_)) (by simp)
  repeat (first | exact sub_empty | refine sub_set (by simp) ?_)
 intro i hi
 by_cases h1 : i < l.length
 ·obtain ⟨o1, o2⟩ := okl _ (List.getElem_mem h1)
  simp [h1]
  refine callFK_of (ref02_Same o1 o1) (by simp [toD_rawc, raw_v]) ?_
  simp [h1]
  refine callFK_of (ref02_Same o2 o2) (by simp [toD_rawc, raw_v]) ?_
  simp
  rw [wrap64 (by omega) (by omega)]
  refine ⟨i + 1, h1, by dsimp only; omega, ?_⟩
  exact weak_p (by repeat (first | exact sub_empty | refine sub_set (by simp) ?_)) (by repeat (first | exact sin_empty | refine sin_set (by simp) ?_))
 ·simp [h1]
  refine callK_of law36_alive (by simp) ?_
  simp
end Go.Proofs.YtipbefckimdkkaaGreat
