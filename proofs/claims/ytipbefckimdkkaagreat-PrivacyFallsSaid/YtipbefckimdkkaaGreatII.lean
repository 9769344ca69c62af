import Derived.Test.YtipbefckimdkkaaGreatIH
import Derived.Test.YtipbefckimdkkaaGreatHE
namespace Go.Proofs.YtipbefckimdkkaaGreat.F
open Go Go.Proofs Go.Proofs.YtipbefckimdkkaaGreat.E Go.Proofs.YtipbefckimdkkaaGreat.Q
abbrev ref36_rates : Nat := 64
def ref36_rates_c : MFn := ⟨37,(.seq (r [o 4 (.mv (.c .nils)),o 5 (.mv (.c (.bool false)))] [0,1]) (.seq (r [o 6 (.mv (.c .nils))] [0,1,6]) (.seq (r [o 7 (.mv (.c (.bool true)))] [0,1,6,7]) (.seq (.seq (r [o 12 (.mv (.t 0)),o 13 (.lenS (.t 12)),o 14 (.mv (i 0))] [1,6,7,12,13,14]) (.block 0 (.loop (.seq (r [o 15 (.bin .lss (.t 14) (.t 13))] [1,6,7,12,13,14,15]) (.seq (.cond (.t 15) .skip (.exit 0)) (.seq (.block 1 (.seq (r [o 16 (.ixA 6 (.t 12) (.t 14)),o 17 (.ld (some 6) (.t 16)),o 9 (.alloc zP),z (.st 6 (.t 9) (.t 17))] [1,6,7,9,12,13,14]) (.seq (r [o 19 (.fA 3 (.t 9)),o 20 (.ld (some 3) (.t 19)),o 21 (.mv (.t 1)),o 22 (.fA 0 (.t 9)),o 23 (.ld (some 3) (.t 22)),o 24 (.callF 29 [(.t 21),(.t 23)]),o 25 (.callF 81 [(.t 20),(.t 24)]),o 18 (.mv (.t 25)),o 26 (.ext (.t 18) 0),o 27 (.ext (.t 18) 1),o 10 (.alloc zR),z (.st 3 (.t 10) (.t 26)),o 11 (.mv (.t 27))] [1,6,7,10,11,12,13,14]) (.seq (.seq (r [o 28 (.mv (.t 11)),o 29 (.bin .neq (.t 28) (i 0))] [1,6,7,10,12,13,14,29]) (.cond (.t 29) (.seq (r [o 7 (.mv (.c (.bool false)))] [1,6,7,12,13,14]) (.exit 1)) .skip)) (r [o 30 (.mv (.t 6)),o 31 (.ld (some 3) (.t 10)),o 32 (.buildSl 3 1 zR [(0,(.t 31))]),o 33 (.app 3 56 (.t 30) (.t 32)),o 6 (.mv (.t 33))] [1,6,7,12,13,14]))))) (r [o 34 (.bin .add (.t 14) (i 1)),o 14 (.mv (.t 34))] [1,6,7,12,13,14]))))))) (.seq (r [o 35 (.mv (.t 6)),o 36 (.mv (.t 7)),o 4 (.mv (.t 35)),o 5 (.mv (.t 36))] [4,5]) .ret))))),[.t 4,.t 5]⟩
theorem ref36_rates_ok : cFn Tryz.prog (kps [[0,1],[0,1,6],[0,1,6,7],[1,6,7,12,13,14],[1,6,7,12,13,14,15],[1,6,7,9,12,13,14],[1,6,7,10,11,12,13,14],[1,6,7,10,12,13,14,29],[1,6,7,12,13,14],[1,6,7,12,13,14],[1,6,7,12,13,14],[4,5]]) [] 64 = some ref36_rates_c := by kernel_rfl
abbrev ref36_Rate : Nat := 21
def ref36_Rate_c : MFn := ⟨39,(.seq (r [o 4 (.alloc zR),o 5 (.mv (i 0))] [0,1,4]) (.seq (.seq (r [o 11 (.mv (.t 0)),o 12 (.mv (.t 1)),o 13 (.call 63 [(.t 11),(.t 12)]),o 14 (.un .not (.t 13))] [0,1,4,14]) (.cond (.t 14) (.seq (r [o 15 (.build zR []),z (.st 3 (.t 4) (.t 15)),o 5 (.mv (i 1))] [4,5]) .ret) .skip)) (.seq (r [o 17 (.mv (.t 0)),o 18 (.mv (.t 1)),o 19 (.call 64 [(.t 17),(.t 18)]),o 16 (.mv (.t 19)),o 20 (.ext (.t 16) 0),o 21 (.ext (.t 16) 1),o 6 (.mv (.t 20)),o 7 (.mv (.t 21))] [4,6,7]) (.seq (.seq (r [o 22 (.mv (.t 7)),o 23 (.un .not (.t 22))] [4,6,23]) (.cond (.t 23) (.seq (r [o 24 (.build zR []),z (.st 3 (.t 4) (.t 24)),o 5 (.mv (i 3))] [4,5]) .ret) .skip)) (.seq (r [o 25 (.call 42 []),o 8 (.alloc zR),z (.st 3 (.t 8) (.t 25))] [4,6,8]) (.seq (.seq (r [o 26 (.mv (.t 6)),o 27 (.lenS (.t 26)),o 28 (.mv (i 0))] [4,8,26,27,28]) (.block 0 (.loop (.seq (r [o 29 (.bin .lss (.t 28) (.t 27))] [4,8,26,27,28,29]) (.seq (.cond (.t 29) .skip (.exit 0)) (.seq (.block 1 (.seq (r [o 30 (.ixA 3 (.t 26) (.t 28)),o 31 (.ld (some 3) (.t 30)),o 10 (.alloc zR),z (.st 3 (.t 10) (.t 31))] [4,8,10,26,27,28]) (.seq (r [o 32 (.ld (some 3) (.t 10)),o 33 (.ld (some 3) (.t 8)),o 34 (.call 16 [(.t 32),(.t 33)]),o 35 (.bin .gtr (.t 34) (i 0))] [4,8,10,26,27,28,35]) (.cond (.t 35) (r [o 36 (.ld (some 3) (.t 10)),z (.st 3 (.t 8) (.t 36))] [4,8,26,27,28]) .skip)))) (r [o 37 (.bin .add (.t 28) (i 1)),o 28 (.mv (.t 37))] [4,8,26,27,28]))))))) (.seq (r [o 38 (.ld (some 3) (.t 8)),z (.st 3 (.t 4) (.t 38)),o 5 (.mv (i 0))] [4,5]) .ret))))))),[.cell 4 (some 3),.t 5]⟩
theorem ref36_Rate_ok : cFn Tryz.prog (kps [[0,1,4],[0,1,4,14],[4,5],[4,6,7],[4,6,23],[4,5],[4,6,8],[4,8,26,27,28],[4,8,26,27,28,29],[4,8,10,26,27,28],[4,8,10,26,27,28,35],[4,8,26,27,28],[4,8,26,27,28],[4,5]]) [] 21 = some ref36_Rate_c := by kernel_rfl
abbrev ref36_Curve : Nat := 23
def ref36_Curve_c : MFn := ⟨73,(.seq (r [o 4 (.mv (.c .nils)),o 5 (.mv (i 0))] [0,1]) (.seq (.seq (r [o 14 (.mv (.t 0)),o 15 (.mv (.t 1)),o 16 (.call 63 [(.t 14),(.t 15)]),o 17 (.un .not (.t 16))] [0,1,17]) (.cond (.t 17) (.seq (r [o 4 (.mv (.c .nils)),o 5 (.mv (i 1))] [4,5]) .ret) .skip)) (.seq (r [o 19 (.mv (.t 0)),o 20 (.mv (.t 1)),o 21 (.call 64 [(.t 19),(.t 20)]),o 18 (.mv (.t 21)),o 22 (.ext (.t 18) 0),o 23 (.ext (.t 18) 1),o 6 (.mv (.t 22)),o 7 (.mv (.t 23))] [0,1,6]) (.seq (r [o 24 (.call 42 []),o 25 (.mv (.t 0)),o 26 (.mv (.t 1)),o 27 (.call 42 []),o 28 (.call 65 [(.t 25),(.t 26),(.t 27)]),o 29 (.build [.bool false,.nils,.nils,.bool false,.nils,.nils] [(0,3,(.t 24)),(3,3,(.t 28))]),o 30 (.buildSl 6 1 [.bool false,.nils,.nils,.bool false,.nils,.nils] [(0,(.t 29))]),o 8 (.mv (.t 30))] [0,1,6,8]) (.block 0 (.loop (.block 1 (.seq (r [o 31 (.mv (.t 8)),o 32 (.mv (.t 8)),o 33 (.lenS (.t 32)),o 34 (.bin .sub (.t 33) (i 1)),o 35 (.ixA 6 (.t 31) (.t 34)),o 36 (.fA 0 (.t 35)),o 37 (.ld (some 3) (.t 36)),o 9 (.alloc zR),z (.st 3 (.t 9) (.t 37))] [0,1,6,8,9]) (.seq (r [o 38 (.call 27 []),o 10 (.alloc zR),z (.st 3 (.t 10) (.t 38)),o 11 (.mv (.c (.bool false)))] [0,1,6,8,9,10,11]) (.seq (.seq (r [o 39 (.mv (.t 6)),o 40 (.lenS (.t 39)),o 41 (.mv (i 0))] [0,1,6,8,9,10,11,39,40,41]) (.block 2 (.loop (.seq (r [o 42 (.bin .lss (.t 41) (.t 40))] [0,1,6,8,9,10,11,39,40,41,42]) (.seq (.cond (.t 42) .skip (.exit 2)) (.seq (.block 3 (.seq (r [o 43 (.ixA 3 (.t 39) (.t 41)),o 44 (.ld (some 3) (.t 43)),o 13 (.alloc zR),z (.st 3 (.t 13) (.t 44))] [0,1,6,8,9,10,11,13,39,40,41]) (.seq (r [o 45 (.ld (some 3) (.t 13)),o 46 (.ld (some 3) (.t 9)),o 47 (.call 16 [(.t 45),(.t 46)]),o 48 (.bin .gtr (.t 47) (i 0)),o 49 (.mv (.t 48)),y 50 49 (.mv (.t 11)),y 51 49 (.un .not (.t 50)),y 52 49 (.mv (.t 51)),n 53 52 (.ld (some 3) (.t 13)),n 54 52 (.ld (some 3) (.t 10)),n 55 52 (.call 16 [(.t 53),(.t 54)]),n 56 52 (.bin .lss (.t 55) (i 0)),y 57 49 (.pick (.t 52) (.c (.bool true)) (.t 56)),o 58 (.pick (.t 49) (.t 57) (.c (.bool false)))] [0,1,6,8,9,10,11,13,39,40,41,58]) (.cond (.t 58) (r [o 59 (.ld (some 3) (.t 13)),z (.st 3 (.t 10) (.t 59)),o 11 (.mv (.c (.bool true)))] [0,1,6,8,9,10,11,39,40,41]) .skip)))) (r [o 60 (.bin .add (.t 41) (i 1)),o 41 (.mv (.t 60))] [0,1,6,8,9,10,11,39,40,41]))))))) (.seq (.seq (r [o 61 (.mv (.t 11)),o 62 (.un .not (.t 61))] [0,1,6,8,10,62]) (.cond (.t 62) (.seq (r [o 63 (.mv (.t 8)),o 4 (.mv (.t 63)),o 5 (.mv (i 0))] [4,5]) .ret) .skip)) (r [o 64 (.mv (.t 8)),o 65 (.ld (some 3) (.t 10)),o 66 (.mv (.t 0)),o 67 (.mv (.t 1)),o 68 (.ld (some 3) (.t 10)),o 69 (.callF 65 [(.t 66),(.t 67),(.t 68)]),o 70 (.build [.bool false,.nils,.nils,.bool false,.nils,.nils] [(0,3,(.t 65)),(3,3,(.t 69))]),o 71 (.buildSl 6 1 [.bool false,.nils,.nils,.bool false,.nils,.nils] [(0,(.t 70))]),o 72 (.app 6 112 (.t 64) (.t 71)),o 8 (.mv (.t 72))] [0,1,6,8])))))))))))),[.t 4,.t 5]⟩
theorem ref36_Curve_ok : cFn Tryz.prog (kps [[0,1],[0,1,17],[4,5],[0,1,6],[0,1,6,8],[0,1,6,8,9],[0,1,6,8,9,10,11],[0,1,6,8,9,10,11,39,40,41],[0,1,6,8,9,10,11,39,40,41,42],[0,1,6,8,9,10,11,13,39,40,41],[0,1,6,8,9,10,11,13,39,40,41,58],[0,1,6,8,9,10,11,39,40,41],[0,1,6,8,9,10,11,39,40,41],[0,1,6,8,10,62],[4,5],[0,1,6,8]]) [] 23 = some ref36_Curve_c := by kernel_rfl
end Go.Proofs.YtipbefckimdkkaaGreat.F

namespace Go.Proofs.YtipbefckimdkkaaGreat
open Go Go.Proofs Go.Proofs.YtipbefckimdkkaaGreat.E
set_option linter.unusedSimpArgs false
set_option linter.unusedVariables false
set_option maxHeartbeats 8000000 in
theorem ref36_rates {a b : List Part} (ga : Good a) (gb : Good b) : CallD Tryz.prog F.ref36_rates [pl a, pl b] (· = .tup [.dat ((rtsQ a b).map kq), .bool (allQ a b)]) := by
 have la := ga.le
 have lb := gb.le
 refine callD_by F.ref36_rates_ok ?_
 unfold F.ref36_rates_c
 simp [setOb, List.filter_cons]
 refine wm_loop (fun g : Nat × Nat => ((((((Sl.empty.set 14 (.int .i64 g.2)).set 13 (.int .i64 a.length)).set 12 (pl a)).set 7 (.bool (allQ (a.take g.2) b))).set 6 (grown g.1 (rtsQ (a.take g.2) b).length)).set 1 (pl b), grownS g.1 3 (rtsQ (a.take g.2) b).length ((rtsQ (a.take g.2) b).map kq)))
  (fun g => g.2 ≤ a.length) (fun g => a.length - g.2) (0, 0) (by simp) ?_ ?_
 ·refine weak_obs ?_ (by simp [rtsQ, grown_zero, grownS_zero]) (by repeat (first | exact sin_empty | refine sin_set (by simp [rtsQ, grown_zero]) ?_)) (by simp [rtsQ, grown_zero, grownS_zero])
  simp [rtsQ, allQ, grown_zero]
  repeat (first | exact sub_empty | refine sub_set (by simp) ?_)
 rintro ⟨o, i⟩ hi
 dsimp only at hi
 by_cases h1 : i < a.length
 ·have okp := ga.ok a[i] (List.getElem_mem h1)
  have hrt := rtsQ_take (b := b) h1
  have hal := allQ_take (b := b) h1
  have hpl : (rtsQ (a.take i) b).length ≤ 60 := by
   have := rtsQ_len (a.take i) b
   rw [List.length_take] at this; omega
  have fw := wtQ_fits gb.ok a[i].v
  have frt := rt_fits ga gb (List.getElem_mem h1)
  have hwt := ref35_Weight (l := b) (v := a[i].v) (by omega) gb.ok gb.norm okp.v
  have hdv := ref02_Div (okp.w.mono (by omega)) (rawOf_ok (fw.mono (by omega)))
  rw [rawOf_q] at hdv
  unfold divR at hdv
  generalize hL : rtsQ (a.take i) b = L at *
  by_cases hn : L.length = 0
  ·have hL0 : L = [] := List.length_eq_zero_iff.1 hn
   subst hL0
   simp [h1, hL, grown_zero, grownS_zero, setOb, List.filter_cons]
   refine callFK_of hwt (by simp [toD_cells]) ?_
   simp [ratV, raw_v]
   refine callFK_of hdv (by simp [toD_rawc, raw_v]) ?_
   by_cases h0 : wtQ b a[i].v = 0
   ·simp [h0] at hrt hal
    simp [h0, setOb, List.filter_cons]
    rw [wrap64 (by omega) (by omega)]
    refine ⟨(o, i + 1), h1, by dsimp only; omega, ?_⟩
    dsimp only
    rw [hrt, hal]
    simp only [List.length_nil, grown_zero, grownS_zero]
    refine weak_obs ?_ (by simp) (by repeat (first | exact sin_empty | refine sin_set (by simp [V.within]) ?_)) (by simp)
    repeat (first | exact sub_empty | refine sub_set (by simp) ?_)
   ·simp [h0] at hrt hal
    simp [h0, setOb, List.filter_cons, ratV, raw_v]
    rw [wrap64 (by omega) (by omega)]
    refine ⟨(3, i + 1), h1, by dsimp only; omega, ?_⟩
    dsimp only
    rw [hrt, hal]
    simp only [List.length_cons, List.length_nil, grown_pos (show 0 + 1 ≠ 0 by omega), grownS_pos (show 0 + 1 ≠ 0 by omega)]
    refine weak_obs ?_ (by simp [kq]) (by repeat (first | exact sin_empty | refine sin_set (by simp [V.within]) ?_)) ?_
    ·repeat (first | exact sub_empty | refine sub_set (by simp) ?_)
    ·simp
     exact fun y hy => kq_in _ y hy _
  ·simp (disch := omega) [h1, hL, grown_pos hn, grownS_pos hn, setOb, List.filter_cons, Nat.max_eq_right, Nat.max_eq_left, if_neg, if_pos]
   refine callFK_of hwt (by simp [toD_cells]) ?_
   simp [ratV, raw_v]
   refine callFK_of hdv (by simp [toD_rawc, raw_v]) ?_
   by_cases h0 : wtQ b a[i].v = 0
   ·simp [h0] at hrt hal
    simp (disch := omega) [h0, setOb, List.filter_cons, Nat.max_eq_right, Nat.max_eq_left, if_neg, if_pos]
    rw [wrap64 (by omega) (by omega)]
    refine ⟨(o, i + 1), h1, by dsimp only; omega, ?_⟩
    dsimp only
    rw [hrt, hal]
    simp only [grown_pos hn, grownS_pos hn]
    refine weak_obs ?_ (by simp <;> omega) (by repeat (first | exact sin_empty | refine sin_set (by simp [V.within]) ?_)) ?_
    ·repeat (first | exact sub_empty | refine sub_set (by simp) ?_)
    ·simp
     exact fun r hr y hy => kq_in _ y hy _
   ·simp [h0] at hrt hal
    simp (disch := omega) [h0, setOb, List.filter_cons, ratV, raw_v, Nat.max_eq_right, Nat.max_eq_left, if_neg, if_pos]
    rw [wrap64 (by omega) (by omega)]
    refine ⟨(o + 1 + 1 + 1 + 1, i + 1), h1, by dsimp only; omega, ?_⟩
    dsimp only
    rw [hrt, hal, List.length_append, List.map_append]
    simp only [grown_pos (show L.length + [a[i].w.q / wtQ b a[i].v].length ≠ 0 by simp), grownS_pos (show L.length + [a[i].w.q / wtQ b a[i].v].length ≠ 0 by simp)]
    refine weak_obs ?_ (by simp <;> first | rfl | omega) (by repeat (first | exact sin_empty | refine sin_set (by simp [V.within]) ?_)) ?_
    ·repeat (first | exact sub_empty | refine sub_set (by simp) ?_)
    ·simp
     rintro r (⟨q, _, rfl⟩ | rfl) y hy <;> exact kq_in _ y hy _
 ·have hil : i = a.length := by omega
  subst hil
  simp [h1]
  rw [toD_grown (k := 10) (st := .own) (es := 3) (l := (rtsQ a b).map kq) ?_ (by simp) (by simp) (by simp) (fun r hr => by
   obtain ⟨c, _, rfl⟩ := List.mem_map.1 hr
   exact kq_toD _ _ _)]
  intro h0
  rw [grownS_pos h0]
  simp [E.look]
theorem maxQ_take {l : List Rat} {i : Nat} (h : i < l.length) : maxQ (l.take (i + 1)) = if maxQ (l.take i) < l[i] then l[i] else maxQ (l.take i) := by
 unfold maxQ
 rw [List.take_succ_eq_append_getElem h, List.foldl_append]
 rfl
theorem maxQ_in (l : List Rat) : maxQ l = 1 ∨ maxQ l ∈ l := (maxQ_spec (l := l) (m := 1)).2.2
theorem ref36_Rate {a b : List Part} (la : a.length ≤ 60) (lb : b.length ≤ 60) (sa : Sm a) (sb : Sm b) : CallD Tryz.prog F.ref36_Rate [pl a, pl b] (· = rateV a b) := by
 refine callD_by F.ref36_Rate_ok ?_
 unfold F.ref36_Rate_c rateV
 simp [setOb, List.filter_cons]
 refine callK_of (ref36_right (by omega) (by omega) sa.ok sb.ok) (by simp) ?_
 cases hra : rightP a with
 | false => simp [setOb, List.filter_cons]
 | true =>
 cases hrb : rightP b with
 | false => simp [setOb, List.filter_cons]
 | true =>
 simp
 refine callK_of (ref36_rates (good_of hra sa.ok) (good_of hrb sb.ok)) (by simp) ?_
 cases hal : allQ a b with
 | false => simp [setOb, List.filter_cons]
 | true =>
 have hn := rtsQ_len a b
 simp
 refine callK_of ref02_One (by simp) ?_
 simp [setOb, List.filter_cons, ratV, raw_v]
 have hfit : ∀ i, Fits (maxQ ((rtsQ a b).take i)) 800000 := fun i => by
  rcases maxQ_in ((rtsQ a b).take i) with h | h
  ·rw [h]; exact fits_one.mono (by omega)
  ·exact rts_fits sa sb (List.mem_of_mem_take h)
 refine wm_loop (fun g : Nat => (((((Sl.empty.set 28 (.int .i64 g)).set 27 (.int .i64 (rtsQ a b).length)).set 26 (.dat ((rtsQ a b).map kq))).set 8 (.ptr 1 0 0)).set 4 (.ptr 0 0 0), [(0, obK [z3]), (1, obK [kq (maxQ ((rtsQ a b).take g))])]))
  (fun g => g ≤ (rtsQ a b).length) (fun g => (rtsQ a b).length - g) 0 (by simp) ?_ ?_
 ·refine weak_obs ?_ (by simp [maxQ, kq]) (by repeat (first | exact sin_empty | refine sin_set (by simp [V.within]) ?_)) ?_
  ·repeat (first | exact sub_empty | refine sub_set (by simp) ?_)
  ·simp
   exact fun y hy => kq_in _ y hy _
 intro i hi
 by_cases h1 : i < (rtsQ a b).length
 ·have hmx := maxQ_take h1
  have fr := rts_fits sa sb (List.getElem_mem h1)
  have hcm := ref02_Compare (rawOf_ok (fr.mono (by omega))) (rawOf_ok ((hfit i).mono (by omega)))
  rw [rawOf_q, rawOf_q] at hcm
  simp [h1, setOb, List.filter_cons]
  refine callK_of hcm (by simp [kq_toD, raw_v]; exact ⟨rfl, rfl⟩) ?_
  by_cases hc : maxQ ((rtsQ a b).take i) < (rtsQ a b)[i]
  ·have h' : 0 < cmpR (rtsQ a b)[i] (maxQ ((rtsQ a b).take i)) := by rw [cmpR_up]; exact hc
   rw [if_pos hc] at hmx
   simp [h', setOb, List.filter_cons]
   rw [wrap64 (by omega) (by omega)]
   refine ⟨i + 1, h1, by dsimp only; omega, ?_⟩
   dsimp only
   rw [hmx]
   refine weak_obs ?_ (by simp) (by repeat (first | exact sin_empty | refine sin_set (by simp [V.within]) ?_)) ?_
   ·repeat (first | exact sub_empty | refine sub_set (by simp) ?_)
   ·simp
    exact fun y hy => kq_in _ y hy _
  ·have h' : ¬ 0 < cmpR (rtsQ a b)[i] (maxQ ((rtsQ a b).take i)) := by rw [cmpR_up]; exact hc
   rw [if_neg hc] at hmx
   simp [h', setOb, List.filter_cons]
   rw [wrap64 (by omega) (by omega)]
   refine ⟨i + 1, h1, by dsimp only; omega, ?_⟩
   dsimp only
   rw [hmx]
   refine weak_obs ?_ (by simp) (by repeat (first | exact sin_empty | refine sin_set (by simp [V.within]) ?_)) ?_
   ·repeat (first | exact sub_empty | refine sub_set (by simp) ?_)
   ·simp
    exact fun y hy => kq_in _ y hy _
 ·have hil : i = (rtsQ a b).length := by omega
  subst hil
  simp [h1, setOb, List.filter_cons, kq_toD, ratV, raw_v]
  rfl
theorem nextQ_snoc (last : Rat) : ∀ (l : List Rat) (r : Rat) (o : Option Rat), nextQ last (l ++ [r]) o = if last < r ∧ belowQ r (nextQ last l o) = true then some r else nextQ last l o
 | [], r, o => rfl
 | a :: l, r, o => by
   rw [List.cons_append]
   unfold nextQ
   exact nextQ_snoc last l r _
theorem nextQ_take {last : Rat} {l : List Rat} {i : Nat} (h : i < l.length) : nextQ last (l.take (i + 1)) none = if last < l[i] ∧ belowQ l[i] (nextQ last (l.take i) none) = true then some l[i] else nextQ last (l.take i) none := by
 rw [List.take_succ_eq_append_getElem h, nextQ_snoc]
theorem nextQ_mem {last n : Rat} {l : List Rat} (h : nextQ last l none = some n) : n ∈ l := by
 have := nextQ_eq (last := last) l
 rw [h] at this
 exact this.2.1
def nxt0 (o : Option Rat) : Rat := o.getD 0
set_option maxHeartbeats 8000000 in
theorem ref36_Curve {a b : List Part} (la : a.length ≤ 60) (lb : b.length ≤ 60) (sa : Sm a) (sb : Sm b) : CallD Tryz.prog F.ref36_Curve [pl a, pl b] (· = curveV a b) := by
 refine callD_by F.ref36_Curve_ok ?_
 unfold F.ref36_Curve_c curveV
 simp [setOb, List.filter_cons]
 refine callK_of (ref36_right (by omega) (by omega) sa.ok sb.ok) (by simp) ?_
 cases hra : rightP a with
 | false => simp [setOb, List.filter_cons]
 | true =>
 cases hrb : rightP b with
 | false => simp [setOb, List.filter_cons]
 | true =>
 have ga := good_of hra sa.ok
 have gb := good_of hrb sb.ok
 have hn := rtsQ_len a b
 have hrl := rates_len a b
 have hrp := rates_pos a b
 have hR := ratesQ_rts a b
 simp
 refine callK_of (ref36_rates ga gb) (by simp) ?_
 simp
 refine callK_of ref02_One (by simp) ?_
 simp [ratV, raw_v]
 refine callK_of ref02_One (by simp) ?_
 simp [ratV, raw_v]
 have hrest1 := ref36_rest ga gb (x := rawOf 1) (rawOf_ok (fits_one.mono (by omega))) (by rw [rawOf_q]; decide)
 rw [rawOf_q] at hrest1
 refine callK_of hrest1 (by simp [toD_rawc, raw_v]) ?_
 simp [ratV, raw_v, setOb, List.filter_cons]
 refine wm_loop (fun g : Nat × Nat => ((((Sl.empty.set 8 (.ref g.1 0 (g.2 + 1))).set 6 (.dat ((rtsQ a b).map kq))).set 1 (pl b)).set 0 (pl a), [(g.1, ⟨.own, 6, ((curveQ a b).take (g.2 + 1)).map corC⟩)]))
  (fun g => g.2 < (ratesQ a b).length) (fun g => (ratesQ a b).length - g.2) (0, 0) hrp ?_ ?_
 ·have hc1 : (curveQ a b).take 1 = [corQ a b 1] := by
   have hc := List.take_succ_eq_append_getElem (l := curveQ a b) (i := 0) (by simpa [curveQ] using hrp)
   rw [List.take_zero, List.nil_append] at hc
   rw [hc]
   simp only [curveQ, List.getElem_map, hR.head hrp]
  dsimp only
  rw [hc1]
  refine weak_obs ?_ (by simp [corC, show ∀ q : Rat, (rawOf q).c = kq q from fun _ => rfl]) (by repeat (first | exact sin_empty | refine sin_set (by simp [V.within]) ?_)) ?_
  ·repeat (first | exact sub_empty | refine sub_set (by simp) ?_)
  ·simp
   exact fun y hy => corc_within _ y hy _
 rintro ⟨o, k⟩ hk
 dsimp only at hk
 have hkc : k < (curveQ a b).length := by simpa [curveQ] using hk
 have hlc : ((curveQ a b).take (k + 1)).length = k + 1 := by simp; omega
 have hck : (curveQ a b)[k] = corQ a b (ratesQ a b)[k] := by simp [curveQ]
 have hw : ∀ n, ∀ r ∈ List.take n ((curveQ a b).map corC), ∀ y ∈ r, ∀ p : Nat → Bool, y.within p = true := fun n r hr y hy p => by
  obtain ⟨x, _, rfl⟩ := List.mem_map.1 (List.mem_of_mem_take hr)
  exact corc_within _ y hy p
 have rk : ∀ q : Rat, (rawOf q).c = kq q := fun q => rfl
 have flast := rates_fits sa sb (List.getElem_mem hk)
 have hnext := hR.next hk
 have k1 : (k : Int) < k + 1 := by omega
 generalize hlast : (ratesQ a b)[k] = last at *
 simp [hlc]
 rw [wrap64 (by omega) (by omega)]
 simp (disch := omega) [k1, hkc, hck, rk, if_pos, if_neg, setOb, List.filter_cons, Nat.max_eq_right, Nat.max_eq_left]
 refine callK_of ref02_Zero (by simp) ?_
 simp (disch := omega) [ratV, raw_v, rk, if_pos, if_neg, setOb, List.filter_cons, Nat.max_eq_right, Nat.max_eq_left]
 refine wm_loop (fun j : Nat => ((((((((((Sl.empty.set 41 (.int .i64 j)).set 40 (.int .i64 (rtsQ a b).length)).set 39 (.dat ((rtsQ a b).map kq))).set 11 (.bool (nextQ last ((rtsQ a b).take j) none).isSome)).set 10 (.ptr (o + 1 + 1) 0 0)).set 9 (.ptr (o + 1) 0 0)).set 8 (.ref o 0 (k + 1))).set 6 (.dat ((rtsQ a b).map kq))).set 1 (pl b)).set 0 (pl a),
  [(o, ⟨.own, 6, ((curveQ a b).map corC).take (k + 1)⟩), (o + 1, obK [kq last]), (o + 1 + 1, obK [kq (nxt0 (nextQ last ((rtsQ a b).take j) none))])]))
  (fun j => j ≤ (rtsQ a b).length) (fun j => (rtsQ a b).length - j) 0 (by simp) ?_ ?_
 ·refine weak_obs ?_ (by simp [nextQ, nxt0] <;> omega) (by repeat (first | exact sin_empty | refine sin_set (by simp [V.within]) ?_)) ?_
  ·simp only [List.take_zero, nextQ]
   repeat (first | exact sub_empty | refine sub_set (by simp) ?_)
  ·simp
   exact ⟨fun r hr y hy => hw _ r hr y hy _, fun y hy => kq_in _ y hy _, fun y hy => kq_in _ y hy _⟩
 intro j hj
 by_cases h1 : j < (rtsQ a b).length
 ·have hnt := nextQ_take (last := last) h1
  have fr := rts_fits sa sb (List.getElem_mem h1)
  have hcm := ref02_Compare (rawOf_ok (fr.mono (by omega))) (rawOf_ok (flast.mono (by omega)))
  rw [rawOf_q, rawOf_q] at hcm
  generalize hN : nextQ last ((rtsQ a b).take j) none = N at *
  simp (disch := omega) [h1, if_pos, if_neg, setOb, List.filter_cons, Nat.max_eq_right, Nat.max_eq_left]
  refine callK_of hcm (by simp [kq_toD, raw_v]; exact ⟨rfl, rfl⟩) ?_
  by_cases hc : last < (rtsQ a b)[j]
  ·have h' : 0 < cmpR (rtsQ a b)[j] last := by rw [cmpR_up]; exact hc
   cases N with
   | none =>
     rw [if_pos ⟨hc, rfl⟩] at hnt
     simp (disch := omega) [h', if_pos, if_neg, setOb, List.filter_cons, Nat.max_eq_right, Nat.max_eq_left]
     rw [wrap64 (by omega) (by omega)]
     refine ⟨j + 1, h1, by dsimp only; omega, ?_⟩
     dsimp only
     rw [hnt]
     refine weak_obs ?_ (by simp [nxt0] <;> first | omega | (intro h; omega) | (repeat' apply And.intro) <;> first | omega | (intro h; omega) | (rw [if_neg (by omega), if_neg (by omega)])) (by repeat (first | exact sin_empty | refine sin_set (by simp [V.within]) ?_)) ?_
     ·repeat (first | exact sub_empty | refine sub_set (by simp) ?_)
     ·simp
      exact ⟨fun r hr y hy => hw _ r hr y hy _, fun y hy => kq_in _ y hy _, fun y hy => kq_in _ y hy _⟩
   | some n =>
     have fn := rts_fits sa sb (List.mem_of_mem_take (nextQ_mem hN))
     have hcm2 := ref02_Compare (rawOf_ok (fr.mono (by omega))) (rawOf_ok (fn.mono (by omega)))
     rw [rawOf_q, rawOf_q] at hcm2
     simp (disch := omega) [h', if_pos, if_neg, setOb, List.filter_cons, Nat.max_eq_right, Nat.max_eq_left]
     refine callK_of hcm2 (by simp [kq_toD, raw_v, nxt0]; exact ⟨rfl, rfl⟩) ?_
     by_cases hd : (rtsQ a b)[j] < n
     ·have h2' : cmpR (rtsQ a b)[j] n < 0 := cmpR_lt.2 hd
      rw [if_pos ⟨hc, decide_eq_true hd⟩] at hnt
      simp (disch := omega) [h2', if_pos, if_neg, setOb, List.filter_cons, Nat.max_eq_right, Nat.max_eq_left]
      rw [wrap64 (by omega) (by omega)]
      refine ⟨j + 1, h1, by dsimp only; omega, ?_⟩
      dsimp only
      rw [hnt]
      refine weak_obs ?_ (by simp [nxt0] <;> first | omega | (intro h; omega) | (repeat' apply And.intro) <;> first | omega | (intro h; omega) | (rw [if_neg (by omega), if_neg (by omega)])) (by repeat (first | exact sin_empty | refine sin_set (by simp [V.within]) ?_)) ?_
      ·repeat (first | exact sub_empty | refine sub_set (by simp) ?_)
      ·simp
       exact ⟨fun r hr y hy => hw _ r hr y hy _, fun y hy => kq_in _ y hy _, fun y hy => kq_in _ y hy _⟩
     ·have h2' : ¬ cmpR (rtsQ a b)[j] n < 0 := fun h => hd (cmpR_lt.1 h)
      rw [if_neg (fun h => hd (of_decide_eq_true h.2))] at hnt
      simp (disch := omega) [h2', if_pos, if_neg, setOb, List.filter_cons, Nat.max_eq_right, Nat.max_eq_left]
      rw [wrap64 (by omega) (by omega)]
      refine ⟨j + 1, h1, by dsimp only; omega, ?_⟩
      dsimp only
      rw [hnt]
      refine weak_obs ?_ (by simp [nxt0] <;> first | omega | (intro h; omega) | (repeat' apply And.intro) <;> first | omega | (intro h; omega) | (rw [if_neg (by omega), if_neg (by omega)])) (by repeat (first | exact sin_empty | refine sin_set (by simp [V.within]) ?_)) ?_
      ·repeat (first | exact sub_empty | refine sub_set (by simp) ?_)
      ·simp
       exact ⟨fun r hr y hy => hw _ r hr y hy _, fun y hy => kq_in _ y hy _, fun y hy => kq_in _ y hy _⟩
  ·have h' : ¬ 0 < cmpR (rtsQ a b)[j] last := by rw [cmpR_up]; exact hc
   rw [if_neg (fun h => hc h.1)] at hnt
   simp (disch := omega) [h', if_pos, if_neg, setOb, List.filter_cons, Nat.max_eq_right, Nat.max_eq_left]
   rw [wrap64 (by omega) (by omega)]
   refine ⟨j + 1, h1, by dsimp only; omega, ?_⟩
   dsimp only
   rw [hnt]
   refine weak_obs ?_ (by simp [nxt0] <;> first | omega | (intro h; omega) | (repeat' apply And.intro) <;> first | omega | (intro h; omega) | (rw [if_neg (by omega), if_neg (by omega)])) (by repeat (first | exact sin_empty | refine sin_set (by simp [V.within]) ?_)) ?_
   ·repeat (first | exact sub_empty | refine sub_set (by simp) ?_)
   ·simp
    exact ⟨fun r hr y hy => hw _ r hr y hy _, fun y hy => kq_in _ y hy _, fun y hy => kq_in _ y hy _⟩
 ·have hil : j = (rtsQ a b).length := by omega
  subst hil
  rw [List.take_length, hnext]
  by_cases hk1 : k + 1 < (ratesQ a b).length
  ·rw [List.getElem?_eq_getElem hk1]
   simp (disch := omega) [h1, if_pos, if_neg, setOb, List.filter_cons, Nat.max_eq_right, Nat.max_eq_left]
   have hkc1 : k + 1 < (curveQ a b).length := by simpa [curveQ] using hk1
   have hck1 : (curveQ a b)[k + 1] = corQ a b (ratesQ a b)[k + 1] := by simp [curveQ]
   have fnx := rates_fits sa sb (List.getElem_mem hk1)
   have onx := rates_one (List.getElem_mem hk1)
   generalize (ratesQ a b)[k + 1] = nx at *
   have hrest := ref36_rest ga gb (x := rawOf nx) (rawOf_ok (fnx.mono (by omega))) (by rw [rawOf_q]; grind)
   rw [rawOf_q] at hrest
   have e2 : ((curveQ a b).map corC).take (k + 1 + 1) = ((curveQ a b).map corC).take (k + 1) ++ [corC (corQ a b nx)] := by
    rw [List.take_succ_eq_append_getElem (by simpa using hkc1), List.getElem_map, hck1]
   refine callFK_of hrest (by simp [kq_toD, raw_v, nxt0]; rfl) ?_
   simp (disch := omega) [ratV, raw_v, nxt0, if_pos, if_neg, setOb, List.filter_cons, Nat.max_eq_right, Nat.max_eq_left]
   refine ⟨(o + 1 + 1 + 1 + 1, k + 1), hk1, by dsimp only; omega, ?_⟩
   dsimp only
   rw [e2]
   refine weak_obs ?_ (by simp [corC, rk]) (by repeat (first | exact sin_empty | refine sin_set (by simp [V.within]) ?_)) ?_
   ·repeat (first | exact sub_empty | refine sub_set (by simp) ?_)
   ·intro p hp r hr y hy
    simp at hp
    subst hp
    rw [← e2] at hr
    exact hw _ r hr y hy _
  ·rw [List.getElem?_eq_none (by omega)]
   simp (disch := omega) [h1, if_pos, if_neg, setOb, List.filter_cons, Nat.max_eq_right, Nat.max_eq_left]
   have ek : k + 1 = (curveQ a b).length := by simp [curveQ]; omega
   rw [List.take_of_length_le (by simp; omega), toD_refP (k := 10) (st := .own) (es := 6) (l := (curveQ a b).map corC) (t := []) (by simp [E.look]) (by simp) (by simp) (by simp; omega) (fun r hr => by
    obtain ⟨c, _, rfl⟩ := List.mem_map.1 hr
    exact toD_corC _ _ _)]
end Go.Proofs.YtipbefckimdkkaaGreat
