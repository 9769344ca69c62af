/- PrivacyMost, over data. -/
import Derived.Test.YtipbefckimdkkaaGreatHD
import Derived.Test.YtipbefckimdkkaaGreatGQ
import Derived.Test.YtipbefckimdkkaaGreatJLPT
import Derived.Test.YtipbefckimdkkaaGreatHB
/- Functions of the program, as the engine reads them; each is held against the translation. -/
namespace Go.Proofs.YtipbefckimdkkaaGreat.F
open Go Go.Proofs Go.Proofs.YtipbefckimdkkaaGreat.E Go.Proofs.YtipbefckimdkkaaGreat.Q
abbrev law36_PrivacyMost : Nat := 5
def law36_PrivacyMost_c : MFn :=
  ⟨133,(.seq (r [o 5 (.box (.t 2)),o 6 (.mv (.c (.bool false)))] [0,1,5]) (.seq (.seq (r [o 18 (.mv (.t 0)),o 19 (.mv (.t 1)),o 20 (.ld (some 3) (.t 5)),o 21 (.call 13 [(.t 18),(.t 19),(.t 20)]),
  o 22 (.un .not (.t 21)),o 23 (.mv (.t 22)),n 24 23 (.mv (.t 0)),n 25 23 (.lenS (.t 24)),n 26 23 (.mv (.t 1)),n 27 23 (.lenS (.t 26)),n 28 23 (.bin .add (.t 25) (.t 27)),n 29 23 (.bin .gtr (.t 28)
  (i 10)),o 30 (.pick (.t 23) (.c (.bool true)) (.t 29))] [0,1,5,30]) (.cond (.t 30) (.seq (r [o 6 (.mv (.c (.bool true)))] [6]) .ret) .skip)) (.seq (r [o 32 (.mv (.t 0)),o 33 (.mv (.t 1)),
  o 34 (.ld (some 3) (.t 5)),o 35 (.call 14 [(.t 32),(.t 33),(.t 34)]),o 31 (.mv (.t 35)),o 36 (.ext (.t 31) 0),o 37 (.ext (.t 31) 1),o 7 (.alloc [.bool false,.nils,.nils]),z (.st 3 (.t 7) (.t 36)),
  o 8 (.mv (.t 37))] [0,1,5,7,8]) (.seq (r [o 39 (.mv (.t 0)),o 40 (.mv (.t 1)),o 41 (.ld (some 3) (.t 5)),o 42 (.call 25 [(.t 39),(.t 40),(.t 41)]),o 38 (.mv (.t 42)),o 43 (.ext (.t 38) 0),
  o 44 (.ext (.t 38) 1),o 9 (.mv (.t 43)),o 10 (.mv (.t 44))] [0,1,5,7,8,9,10]) (.seq (.seq (r [o 45 (.mv (.t 8)),o 46 (.bin .neq (.t 45) (i 0)),o 47 (.mv (.t 46)),n 48 47 (.mv (.t 10)),
  n 49 47 (.bin .neq (.t 48) (i 0)),o 50 (.pick (.t 47) (.c (.bool true)) (.t 49))] [0,1,5,7,9,50]) (.cond (.t 50) (.seq (r [o 6 (.mv (.c (.bool false)))] [6]) .ret) .skip))
  (.seq (r [o 51 (.mv (.t 0)),o 52 (.mv (.t 1)),o 53 (.call 26 [(.t 51),(.t 52)]),o 11 (.mv (.t 53))] [0,1,5,7,9,11]) (.seq (r [o 54 (.call 27 []),o 12 (.alloc [.bool false,.nils,.nils]),
  z (.st 3 (.t 12) (.t 54))] [0,1,5,7,9,11,12]) (.seq (.seq (r [o 13 (.mv (i 0))] [0,1,5,7,9,11,12,13]) (.block 0 (.loop (.seq (.seq (r [o 55 (.mv (.t 13)),o 56 (.mv (.t 11)),o 57 (.lenS (.t 56)),
  o 58 (.cvt .u64 (.t 57)),o 59 (.bin .shl (i 1) (.t 58)),o 60 (.bin .lss (.t 55) (.t 59))] [0,1,5,7,9,11,12,13,60]) (.cond (.t 60) .skip (.exit 0))) (.seq (.block 1 (.seq (r [o 63 (.call 27 []),
  o 14 (.alloc [.bool false,.nils,.nils]),z (.st 3 (.t 14) (.t 63))] [0,1,5,7,9,11,12,13,14]) (.seq (.seq (r [o 64 (.mv (.t 11)),o 65 (.lenS (.t 64)),o 66 (.mv (i 0))] [0,1,5,7,9,11,12,13,14,65,66])
  (.block 2 (.loop (.seq (r [o 67 (.bin .lss (.t 66) (.t 65))] [0,1,5,7,9,11,12,13,14,65,66,67]) (.seq (.cond (.t 67) .skip (.exit 2)) (.seq (.block 3 (.seq (r [o 68 (.mv (.t 66)),
  o 15 (.mv (.t 68))] [0,1,5,7,9,11,12,13,14,15,65,66]) (.seq (r [o 69 (.mv (.t 13)),o 70 (.mv (.t 15)),o 71 (.cvt .u64 (.t 70)),o 72 (.bin .shr (.t 69) (.t 71)),o 73 (.bin .and (.t 72) (i 1)),
  o 74 (.bin .eql (.t 73) (i 1))] [0,1,5,7,9,11,12,13,14,15,65,66,74]) (.cond (.t 74) (r [o 75 (.ld (some 3) (.t 14)),o 76 (.mv (.t 0)),o 77 (.mv (.t 11)),o 78 (.mv (.t 15)),o 79 (.ixA 3 (.t 77)
  (.t 78)),o 80 (.ld (some 3) (.t 79)),o 81 (.callF 29 [(.t 76),(.t 80)]),o 82 (.ld (some 3) (.t 5)),o 83 (.mv (.t 1)),o 84 (.mv (.t 11)),o 85 (.mv (.t 15)),o 86 (.ixA 3 (.t 84) (.t 85)),
  o 87 (.ld (some 3) (.t 86)),o 88 (.callF 29 [(.t 83),(.t 87)]),o 89 (.callF 15 [(.t 82),(.t 88)]),o 90 (.callF 28 [(.t 81),(.t 89)]),o 91 (.callF 17 [(.t 75),(.t 90)]),z (.st 3 (.t 14) (.t 91))] [0,
  1,5,7,9,11,12,13,14,65,66]) .skip)))) (r [o 92 (.bin .add (.t 66) (i 1)),o 66 (.mv (.t 92))] [0,1,5,7,9,11,12,13,14,65,66]))))))) (.seq (r [o 93 (.ld (some 3) (.t 14)),o 94 (.ld (some 3) (.t 12)),
  o 95 (.call 16 [(.t 93),(.t 94)]),o 96 (.bin .gtr (.t 95) (i 0))] [0,1,5,7,9,11,12,13,14,96]) (.cond (.t 96) (r [o 97 (.ld (some 3) (.t 14)),z (.st 3 (.t 12) (.t 97))] [0,1,5,7,9,11,12,13])
  .skip))))) (r [o 61 (.mv (.t 13)),o 62 (.bin .add (.t 61) (i 1)),o 13 (.mv (.t 62))] [0,1,5,7,9,11,12,13])))))) (.seq (r [o 98 (.call 27 []),o 16 (.alloc [.bool false,.nils,.nils]),z (.st 3 (.t 16)
  (.t 98))] [0,1,5,7,9,12,16]) (.seq (.seq (r [o 99 (.mv (.t 9)),o 100 (.lenS (.t 99)),o 101 (.mv (i 0))] [0,1,5,7,9,12,16,100,101]) (.block 4 (.loop (.seq (r [o 102 (.bin .lss (.t 101) (.t 100))] [0,
  1,5,7,9,12,16,100,101,102]) (.seq (.cond (.t 102) .skip (.exit 4)) (.seq (.block 5 (.seq (r [o 103 (.mv (.t 101)),o 17 (.mv (.t 103))] [0,1,5,7,9,12,16,17,100,101]) (r [o 104 (.ld (some 3) (.t 16)),
  o 105 (.mv (.t 0)),o 106 (.mv (.t 9)),o 107 (.mv (.t 17)),o 108 (.ixA 3 (.t 106) (.t 107)),o 109 (.ld (some 3) (.t 108)),o 110 (.callF 29 [(.t 105),(.t 109)]),o 111 (.ld (some 3) (.t 5)),
  o 112 (.mv (.t 1)),o 113 (.mv (.t 9)),o 114 (.mv (.t 17)),o 115 (.ixA 3 (.t 113) (.t 114)),o 116 (.ld (some 3) (.t 115)),o 117 (.callF 29 [(.t 112),(.t 116)]),o 118 (.callF 15 [(.t 111),(.t 117)]),
  o 119 (.callF 28 [(.t 110),(.t 118)]),o 120 (.callF 17 [(.t 104),(.t 119)]),z (.st 3 (.t 16) (.t 120))] [0,1,5,7,9,12,16,100,101]))) (r [o 121 (.bin .add (.t 101) (i 1)),o 101 (.mv (.t 121))] [0,1,
  5,7,9,12,16,100,101]))))))) (.seq (r [o 122 (.ld (some 3) (.t 7)),o 123 (.ld (some 3) (.t 12)),o 124 (.call 24 [(.t 122),(.t 123)]),o 125 (.mv (.t 124)),y 126 125 (.ld (some 3) (.t 16)),
  y 127 125 (.ld (some 3) (.t 12)),y 128 125 (.call 24 [(.t 126),(.t 127)]),o 129 (.pick (.t 125) (.t 128) (.c (.bool false))),o 130 (.mv (.t 129)),y 131 130 (.call 18 []),o 132 (.pick (.t 130)
  (.t 131) (.c (.bool false))),o 6 (.mv (.t 132))] [6]) .ret))))))))))),[.t 6]⟩
theorem law36_PrivacyMost_ok : cFn Tryz.prog (kps [[0,1,5],[0,1,5,30],[6],[0,1,5,7,8],[0,1,5,7,8,9,10],[0,1,5,7,9,50],[6],[0,1,5,7,9,11],[0,1,5,7,9,11,12],[0,1,5,7,9,11,12,13],[0,1,5,7,9,11,12,13,60],[0,1,5,7,9,11,12,13],[0,1,5,7,9,11,12,13,14],[0,1,5,7,9,11,12,13,14,65,66],[0,1,5,7,9,11,12,13,14,65,66,67],[0,1,5,7,9,11,12,13,14,15,65,66],[0,1,5,7,9,11,12,13,14,15,65,66,74],[0,1,5,7,9,11,12,13,14,65,66],[0,1,5,7,9,11,12,13,14,65,66],[0,1,5,7,9,11,12,13,14,96],[0,1,5,7,9,11,12,13],[0,1,5,7,9,12,16],[0,1,5,7,9,12,16,100,101],[0,1,5,7,9,12,16,100,101,102],[0,1,5,7,9,12,16,17,100,101],[0,1,5,7,9,12,16,100,101],[0,1,5,7,9,12,16,100,101],[6]]) [] 5 = some law36_PrivacyMost_c := by kernel_rfl
end Go.Proofs.YtipbefckimdkkaaGreat.F

namespace Go.Proofs.YtipbefckimdkkaaGreat
open Go Go.Proofs Go.Proofs.YtipbefckimdkkaaGreat.E
set_option linter.unusedSimpArgs false
set_option linter.unusedVariables false
def difR (a b : List Part) (r : Rat) (l : List Tr) (i : Nat) : Rat := match l[i]? with
  | some v => wtQ a v - r * wtQ b v
  | none => 0
theorem difR_eq {a b : List Part} {r : Rat} {l : List Tr} {i : Nat} (h : i < l.length) : difR a b r l i = wtQ a l[i] - r * wtQ b l[i] := by unfold difR; rw [List.getElem?_eq_getElem h]
theorem posR_range {a b : List Part} (ga : Good a) (gb : Good b) {r : Rat} (hr : 0 ≤ r) : sumBy (fun i => posR (difR a b r (valsT a b) i)) (List.range (valsT a b).length) = restQ a b r := by
  have e : (fun i => posR (difR a b r (valsT a b) i)) = fun i => match (valsT a b)[i]? with | some v => posR (wtQ a v - r * wtQ b v) | none => 0 := by
    funext i; unfold difR
    cases (valsT a b)[i]? with
    | none => rfl
    | some v => rfl
  rw [e]
  exact (sum_range (f := fun v => posR (wtQ a v - r * wtQ b v)) (valsT a b)).trans (rest_vals ga gb hr)
theorem difV_fits {a b : List Part} (oa : ∀ p ∈ a, p.Ok 1000000) (ob : ∀ p ∈ b, p.Ok 1000000) {r : Rat} (hr : Fits r 1000000) (v : Tr) : Fits (wtQ a v - r * wtQ b v) 3000001 :=
  (fits_sub (wtQ_fits oa v) (prod_fits ob hr v)).mono (by omega)
theorem difR_fits {a b : List Part} (oa : ∀ p ∈ a, p.Ok 1000000) (ob : ∀ p ∈ b, p.Ok 1000000) {r : Rat} (hr : Fits r 1000000) (l : List Tr) (i : Nat) : Fits (difR a b r l i) 3000001 := by
  unfold difR; split
  · exact difV_fits oa ob hr _
  · exact fits_zero.mono (by omega)
theorem setR_fits {d : Nat → Rat} (hd : ∀ i, Fits (d i) 3000001) (n s : Nat) (hn : n ≤ 200) : Fits (setQ d n s) (2 ^ 30) := by
  refine (sumBy_fits (k := 3000001) _ fun i _ => ?_).mono ?_
  · split
    · exact hd i
    · exact fits_zero.mono (by omega)
  · rw [List.length_range]
    have : n * (3000001 + 1) ≤ 200 * 3000002 := Nat.mul_le_mul_right _ hn
    omega
theorem many_rated {a b : List Part} {x : Raw} (h : ratedP a b x = true) : ∀ p ∈ a, manyT p.v ≤ 60 := by
  simp only [ratedP, fewP, Bool.and_eq_true, List.all_eq_true, fewAt, decide_eq_true_eq] at h
  exact fun p hp => (h.1.1.1.1.1.2 p hp).1.1
set_option maxHeartbeats 8000000 in
theorem privacyMost_law {l0 l1 : List (List V)} {l2 : List V} (h0 : ∃ n, Typed Tryz.prog n T.parts [.dat l0]) (h1 : ∃ n, Typed Tryz.prog n T.parts [.dat l1]) (h2 : ∃ n, Typed Tryz.prog n T.ratio l2) : CallD Tryz.prog F.law36_PrivacyMost [.dat l0, .dat l1, .agg l2] (· = .bool true) := by
  obtain ⟨a, rfl, la, ha⟩ := read_parts h0
  obtain ⟨b, rfl, lb, hb⟩ := read_parts h1
  obtain ⟨x, rfl, hx⟩ := read_rat h2
  refine callD_by F.law36_PrivacyMost_ok ?_
  unfold F.law36_PrivacyMost_c
  simp [setOb, List.filter_cons]
  refine callK_of (law36_rated la lb ha hb hx) (by simp [toD_rawc, raw_v]) ?_
  cases r1 : ratedP a b x with
  | false => simp
  | true =>
  have R := rated_of ha hb hx r1
  have ga := R.ga
  have gb := R.gb
  have x1 := R.one
  have x0 : 0 ≤ x.q := by grind
  have fx := Raw.fits R.x3 (by omega)
  have fx6 : Fits x.q 1000000 := fx.mono (by omega)
  have hx6 : x.Ok 1000000 := R.x3.mono (by omega)
  have hx31 : x.Ok (2 ^ 31) := R.x3.mono (by omega)
  have na := R.na
  have nb := R.nb
  have oa := ga.ok
  have ob := gb.ok
  have lv := vals_len a b
  simp
  rw [wrap64 (by omega) (by omega)]
  by_cases hab : (10 : Int) < a.length + b.length
  · have hab2 : ¬ (a.length : Int) + b.length ≤ 10 := by omega
    simp [hab, hab2]
  have hab2 : (a.length : Int) + b.length ≤ 10 := by omega
  simp [hab, hab2]
  refine callK_of (privacy_Rest (by omega) (by omega) oa ob hx6) (by simp [toD_rawc, raw_v]) ?_
  rw [restV_ok R.ra R.rb R.rx]
  simp [setOb, List.filter_cons, ratV, raw_v]
  refine callK_of (privacy_Worst R.ra R.rb R.rx oa ob hx6 (many_rated r1)) (by simp [toD_rawc, raw_v]) ?_
  simp
  refine callK_of (ref35_Values (by omega) (by omega) ga ob) (by simp) ?_
  simp
  refine callK_of ref02_Zero (by simp) ?_
  simp [setOb, List.filter_cons, ratV, raw_v]
  generalize hn : (valsT a b).length = n
  generalize hD : difR a b x.q (valsT a b) = D
  generalize hWo : worstT a b x.q = W
  have fd : ∀ i, Fits (D i) 3000001 := by rw [← hD]; exact difR_fits oa ob fx6 (valsT a b)
  have fr := rest_fits (a := a) (b := b) oa ob fx6 (by omega)
  refine wm_loop (fun g : Nat × Rat => ((((((((Sl.empty.set 13 (.int .i64 g.1)).set 12 (.ptr 2 0 0)).set 11 (tl (valsT a b))).set 9 (tl W)).set 7 (.ptr 1 0 0)).set 5 (.ptr 0 0 0)).set 1 (pl b)).set 0 (pl a), [(0, ⟨.own, 3, [x.c]⟩), (1, ⟨.own, 3, [(rawOf (restQ a b x.q)).c]⟩), (2, ⟨.own, 3, [(rawOf g.2).c]⟩)]))
    (fun g => g.1 ≤ 2 ^ n ∧ Fits g.2 (2 ^ 30) ∧ g.2 ≤ restQ a b x.q ∧ ∀ s, s < g.1 → setQ D n s ≤ g.2) (fun g => 2 ^ n - g.1) (0, 0) ?_ ?_ ?_
  · exact ⟨Nat.zero_le _, fits_zero.mono (by omega), rest_nn a b x.q, fun s hs => absurd hs (Nat.not_lt_zero _)⟩
  · refine weak_obs ?_ (by simp) (by repeat (first | exact sin_empty | refine sin_set (by simp) ?_)) ?_
    · repeat (first | exact sub_empty | refine sub_set (by simp) ?_)
    · simp
      exact ⟨fun y hy => rawc_within _ y hy, fun y hy => rawc_within _ y hy, fun y hy => rawc_within _ y hy⟩
  rintro ⟨s, m⟩ ⟨h2, h3, h4, h5⟩
  dsimp only at h2 h3 h4 h5
  have n10 : n ≤ 10 := by omega
  have p10 : 2 ^ n ≤ 1024 := Nat.pow_le_pow_right (by omega) n10
  have ew : IntKind.u64.wrap (n : Int) = n := wrapU64 (by omega) (by omega)
  have ep : IntKind.i64.wrap (2 ^ min n 64) = ((2 ^ n : Nat) : Int) := by
    have e2 : ((2 ^ n : Nat) : Int) = 2 ^ n := by simp
    rw [Nat.min_eq_left (by omega), ← e2, wrap64 (by omega) (by omega)]
  generalize hP : 2 ^ n = P at *
  by_cases h6 : s < P
  · simp [hn]
    rw [ew]
    simp
    rw [ep]
    have q2 : ¬ P ≤ s := by omega
    simp [h6, q2]
    refine callK_of ref02_Zero (by simp) ?_
    simp [setOb, List.filter_cons, ratV, raw_v, hn]
    refine wm_loop (fun g : Nat => (((((((((((Sl.empty.set 66 (.int .i64 g)).set 65 (.int .i64 n)).set 14 (.ptr 3 0 0)).set 13 (.int .i64 s)).set 12 (.ptr 2 0 0)).set 11 (tl (valsT a b))).set 9 (tl W)).set 7 (.ptr 1 0 0)).set 5 (.ptr 0 0 0)).set 1 (pl b)).set 0 (pl a), [(0, ⟨.own, 3, [x.c]⟩), (1, ⟨.own, 3, [(rawOf (restQ a b x.q)).c]⟩), (2, ⟨.own, 3, [(rawOf m).c]⟩), (3, ⟨.own, 3, [(rawOf (setQ D g s)).c]⟩)]))
      (fun g => g ≤ n) (fun g => n - g) 0 (by omega) ?_ ?_
    · refine weak_obs ?_ (by simp [setQ, sumBy]) (by repeat (first | exact sin_empty | refine sin_set (by simp) ?_)) ?_
      · repeat (first | exact sub_empty | refine sub_set (by simp) ?_)
      · simp
        exact ⟨fun y hy => rawc_within _ y hy, fun y hy => rawc_within _ y hy, fun y hy => rawc_within _ y hy, fun y hy => rawc_within _ y hy⟩
    intro i hi
    by_cases h7 : i < n
    · have h7' : i < (valsT a b).length := by omega
      generalize hval : (valsT a b)[i] = v
      have okv : v.Ok := by rw [← hval]; exact vals_ok oa ob _ (List.getElem_mem h7')
      have ed : D i = wtQ a v - x.q * wtQ b v := by rw [← hD, difR_eq h7', hval]
      have hst := setQ_take D i s
      have ei : IntKind.u64.wrap (i : Int) = i := wrapU64 (by omega) (by omega)
      simp [h7]
      have hsi : s / 2 ^ i < 9223372036854775808 := Nat.lt_of_le_of_lt (Nat.div_le_self _ _) (by omega)
      rw [ei]
      simp
      rw [shr_nat s i (by omega), and_one _ hsi]
      have fa' : (rawOf (wtQ a v)).Ok (2 ^ 31) := rawOf_ok ((wtQ_fits oa v).mono (by omega))
      have fb' : (rawOf (wtQ b v)).Ok (2 ^ 31) := rawOf_ok ((wtQ_fits ob v).mono (by omega))
      have fp' : (rawOf (x.q * wtQ b v)).Ok (2 ^ 31) := rawOf_ok ((prod_fits ob fx6 v).mono (by omega))
      by_cases hb1 : s / 2 ^ i % 2 = 1
      · have q1 : ((s / 2 ^ i % 2 : Nat) : Int) = 1 := by omega
        have q3 : inS s i = true := decide_eq_true hb1
        rw [q3, if_pos rfl, ed] at hst
        rw [q1]
        simp [hval, h7']
        refine callFK_of (ref35_Weight (by omega) oa ga.norm okv) (by simp [toD_cells]) ?_
        simp [ratV, raw_v, hval, h7']
        refine callFK_of (ref35_Weight (by omega) ob gb.norm okv) (by simp [toD_cells]) ?_
        simp [ratV, raw_v]
        refine callFK_of (ref02_Mul hx31 fb') (by simp [toD_rawc, raw_v]) ?_
        simp [ratV, raw_v, rawOf_q]
        refine callFK_of (ref02_Sub fa' fp') (by simp [toD_rawc, raw_v]) ?_
        simp [ratV, raw_v, rawOf_q]
        refine callFK_of (ref02_Add (rawOf_ok ((setR_fits fd i s (by omega)).mono (by omega))) (rawOf_ok ((difV_fits oa ob fx6 v).mono (by omega)))) (by simp [toD_rawc, raw_v]) ?_
        simp [ratV, raw_v, rawOf_q, ← hst, setOb, List.filter_cons]
        rw [wrap64 (by omega) (by omega)]
        refine ⟨i + 1, h7, by dsimp only; omega, ?_⟩
        refine weak_obs ?_ (by simp) (by repeat (first | exact sin_empty | refine sin_set (by simp) ?_)) ?_
        · repeat (first | exact sub_empty | refine sub_set (by simp) ?_)
        · simp
          exact ⟨fun y hy => rawc_within _ y hy, fun y hy => rawc_within _ y hy, fun y hy => rawc_within _ y hy, fun y hy => rawc_within _ y hy⟩
      · have q1 : ¬ ((s / 2 ^ i % 2 : Nat) : Int) = 1 := by omega
        have q3 : inS s i = false := decide_eq_false hb1
        rw [q3, if_neg (by simp), Rat.add_zero] at hst
        generalize ((s / 2 ^ i % 2 : Nat) : Int) = z at *
        simp [q1]
        rw [wrap64 (by omega) (by omega)]
        refine ⟨i + 1, h7, by dsimp only; omega, ?_⟩
        refine weak_obs ?_ (by simp [hst]) (by repeat (first | exact sin_empty | refine sin_set (by simp) ?_)) ?_
        · repeat (first | exact sub_empty | refine sub_set (by simp) ?_)
        · simp
          exact ⟨fun y hy => rawc_within _ y hy, fun y hy => rawc_within _ y hy, fun y hy => rawc_within _ y hy, fun y hy => rawc_within _ y hy⟩
    · have hil : i = n := by omega
      subst hil
      have fs := setR_fits fd i s (by omega)
      have hle := setQ_le D i s
      rw [← hD, ← hn, posR_range ga gb x0, hn, hD] at hle
      have up : ∀ m', m ≤ m' → setQ D i s ≤ m' → ∀ s', s' < s + 1 → setQ D i s' ≤ m' := fun m' g1 g2 s' hs' => by
        by_cases e : s' = s
        · rw [e]; exact g2
        · exact Rat.le_trans (h5 s' (by omega)) g1
      simp
      refine callK_of (ref02_Compare (rawOf_ok (fs.mono (by omega))) (rawOf_ok (h3.mono (by omega)))) (by simp [toD_rawc, raw_v]) ?_
      rw [rawOf_q, rawOf_q]
      by_cases hgt : m < setQ D i s
      · have q1 : 0 < cmpR (setQ D i s) m := by unfold cmpR; rw [if_neg (by grind), if_pos hgt]; omega
        simp [q1, setOb, List.filter_cons]
        rw [wrap64 (by omega) (by omega)]
        refine ⟨(s + 1, setQ D i s), ⟨by dsimp only; omega, fs, hle, up _ (by grind) (by grind)⟩, by dsimp only; omega, ?_⟩
        refine weak_obs ?_ (by simp) (by repeat (first | exact sin_empty | refine sin_set (by simp) ?_)) ?_
        · repeat (first | exact sub_empty | refine sub_set (by simp) ?_)
        · simp
          exact ⟨fun y hy => rawc_within _ y hy, fun y hy => rawc_within _ y hy, fun y hy => rawc_within _ y hy⟩
      · have q1 : ¬ 0 < cmpR (setQ D i s) m := by unfold cmpR; rw [if_neg hgt]; split <;> omega
        simp [q1]
        rw [wrap64 (by omega) (by omega)]
        refine ⟨(s + 1, m), ⟨by dsimp only; omega, h3, h4, up _ (by grind) (by grind)⟩, by dsimp only; omega, ?_⟩
        refine weak_obs ?_ (by simp) (by repeat (first | exact sin_empty | refine sin_set (by simp) ?_)) ?_
        · repeat (first | exact sub_empty | refine sub_set (by simp) ?_)
        · simp
          exact ⟨fun y hy => rawc_within _ y hy, fun y hy => rawc_within _ y hy, fun y hy => rawc_within _ y hy⟩
  · simp [hn]
    rw [ew]
    simp
    rw [ep]
    have hsP : s = P := by omega
    have heq : m = restQ a b x.q := by
      obtain ⟨s', hs', e'⟩ := setQ_hit D n
      have := h5 s' (by omega)
      rw [e', ← hD, ← hn, posR_range ga gb x0] at this
      grind
    subst heq
    have q2 : P ≤ s := by omega
    have h6i : ¬ (s : Int) < P := by omega
    have q2i : (P : Int) ≤ s := by omega
    have hWv : ∀ v ∈ W, v.Ok := fun v hv => by
      rw [← hWo] at hv
      unfold worstT at hv
      obtain ⟨p, hp, rfl⟩ := List.mem_map.1 hv
      exact (oa p (List.mem_filter.1 hp).1).v
    have lW : W.length ≤ 10 := by
      rw [← hWo]
      unfold worstT
      rw [List.length_map]
      exact Nat.le_trans (List.length_filter_le _ _) na
    have sW : sumBy (fun v => wtQ a v - x.q * wtQ b v) W = restQ a b x.q := by rw [← hWo]; exact worst_sum ga
    have fr31 : (rawOf (restQ a b x.q)).Ok (2 ^ 31) := rawOf_ok (fr.mono (by omega))
    simp [h6, q2, h6i, q2i]
    refine callK_of ref02_Zero (by simp) ?_
    simp [setOb, List.filter_cons, ratV, raw_v]
    refine wm_loop (fun g : Nat => (((((((((Sl.empty.set 101 (.int .i64 g)).set 100 (.int .i64 W.length)).set 16 (.ptr 3 0 0)).set 12 (.ptr 2 0 0)).set 9 (tl W)).set 7 (.ptr 1 0 0)).set 5 (.ptr 0 0 0)).set 1 (pl b)).set 0 (pl a), [(0, ⟨.own, 3, [x.c]⟩), (1, ⟨.own, 3, [(rawOf (restQ a b x.q)).c]⟩), (2, ⟨.own, 3, [(rawOf (restQ a b x.q)).c]⟩), (3, ⟨.own, 3, [(rawOf (sumBy (fun v => wtQ a v - x.q * wtQ b v) (W.take g))).c]⟩)]))
      (fun g => g ≤ W.length) (fun g => W.length - g) 0 (by omega) ?_ ?_
    · refine weak_obs ?_ (by simp [sumBy]) (by repeat (first | exact sin_empty | refine sin_set (by simp) ?_)) ?_
      · repeat (first | exact sub_empty | refine sub_set (by simp) ?_)
      · simp
        repeat' apply And.intro
        all_goals exact fun y hy => rawc_within _ y hy
    intro i hi
    by_cases h7 : i < W.length
    · generalize hval : W[i] = v
      have okv : v.Ok := by rw [← hval]; exact hWv _ (List.getElem_mem h7)
      have hst := sumBy_take (f := fun v => wtQ a v - x.q * wtQ b v) h7
      rw [hval] at hst
      have fs : Fits (sumBy (fun v => wtQ a v - x.q * wtQ b v) (W.take i)) (2 ^ 30) := (sumBy_fits (k := 3000001) _ fun v _ => difV_fits oa ob fx6 v).mono (by
        have h1 : (W.take i).length ≤ 10 := by rw [List.length_take]; omega
        have : (W.take i).length * (3000001 + 1) ≤ 10 * 3000002 := Nat.mul_le_mul_right _ h1
        omega)
      have fa' : (rawOf (wtQ a v)).Ok (2 ^ 31) := rawOf_ok ((wtQ_fits oa v).mono (by omega))
      have fb' : (rawOf (wtQ b v)).Ok (2 ^ 31) := rawOf_ok ((wtQ_fits ob v).mono (by omega))
      have fp' : (rawOf (x.q * wtQ b v)).Ok (2 ^ 31) := rawOf_ok ((prod_fits ob fx6 v).mono (by omega))
      simp [h7, hval]
      refine callFK_of (ref35_Weight (by omega) oa ga.norm okv) (by simp [toD_cells]) ?_
      simp [ratV, raw_v, hval, h7]
      refine callFK_of (ref35_Weight (by omega) ob gb.norm okv) (by simp [toD_cells]) ?_
      simp [ratV, raw_v]
      refine callFK_of (ref02_Mul hx31 fb') (by simp [toD_rawc, raw_v]) ?_
      simp [ratV, raw_v, rawOf_q]
      refine callFK_of (ref02_Sub fa' fp') (by simp [toD_rawc, raw_v]) ?_
      simp [ratV, raw_v, rawOf_q]
      refine callFK_of (ref02_Add (rawOf_ok (fs.mono (by omega))) (rawOf_ok ((difV_fits oa ob fx6 v).mono (by omega)))) (by simp [toD_rawc, raw_v]) ?_
      simp [ratV, raw_v, rawOf_q, ← hst, setOb, List.filter_cons]
      rw [wrap64 (by omega) (by omega)]
      refine ⟨i + 1, h7, by dsimp only; omega, ?_⟩
      refine weak_obs ?_ (by simp) (by repeat (first | exact sin_empty | refine sin_set (by simp) ?_)) ?_
      · repeat (first | exact sub_empty | refine sub_set (by simp) ?_)
      · simp
        repeat' apply And.intro
        all_goals exact fun y hy => rawc_within _ y hy
    · have hil : i = W.length := by omega
      subst hil
      rw [List.take_length, sW]
      simp
      refine callK_of (ref02_Same fr31 fr31) (by simp [toD_rawc, raw_v]) ?_
      simp
      refine callK_of (ref02_Same fr31 fr31) (by simp [toD_rawc, raw_v]) ?_
      simp
      refine callK_of law36_alive (by simp) ?_
      simp
end Go.Proofs.YtipbefckimdkkaaGreat
