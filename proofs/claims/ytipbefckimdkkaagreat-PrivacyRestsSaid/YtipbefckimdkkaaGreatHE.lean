/- Joined texts: CPri6, CPri7. -/
import Derived.Test.YtipbefckimdkkaaGreatHD
import Derived.Test.YtipbefckimdkkaaGreatHC
/- Functions of the program, as the engine reads them; each is held against the translation. -/
namespace Go.Proofs.YtipbefckimdkkaaGreat.F
open Go Go.Proofs Go.Proofs.YtipbefckimdkkaaGreat.E Go.Proofs.YtipbefckimdkkaaGreat.Q
abbrev ref36_more : Nat := 86
def ref36_more_c : MFn :=
  ⟨24,(.seq (r [o 6 (.box (.t 2)),o 7 (.box (.t 3)),o 8 (.alloc [.bool false,.nils,.nils])] [0,1,6,7,8]) (.seq (r [o 10 (.mv (.t 0)),o 11 (.ld (some 3) (.t 6)),o 12 (.callF 29 [(.t 10),(.t 11)]),
  o 13 (.ld (some 3) (.t 7)),o 14 (.mv (.t 1)),o 15 (.ld (some 3) (.t 6)),o 16 (.callF 29 [(.t 14),(.t 15)]),o 17 (.callF 15 [(.t 13),(.t 16)]),o 18 (.callF 28 [(.t 12),(.t 17)]),
  o 9 (.alloc [.bool false,.nils,.nils]),z (.st 3 (.t 9) (.t 18))] [8,9]) (.seq (.seq (r [o 19 (.ld (some 3) (.t 9)),o 20 (.call 44 [(.t 19)]),o 21 (.bin .lss (.t 20) (i 0))] [8,9,21]) (.cond (.t 21)
  (.seq (r [o 22 (.call 27 []),z (.st 3 (.t 8) (.t 22))] [8]) .ret) .skip)) (.seq (r [o 23 (.ld (some 3) (.t 9)),z (.st 3 (.t 8) (.t 23))] [8]) .ret)))),[.cell 8 (some 3)]⟩
theorem ref36_more_ok : cFn Tryz.prog (kps [[0,1,6,7,8],[8,9],[8,9,21],[8],[8]]) [] 86 = some ref36_more_c := by kernel_rfl
abbrev ref36_rest : Nat := 65
def ref36_rest_c : MFn :=
  ⟨28,(.seq (r [o 5 (.box (.t 2)),o 6 (.alloc [.bool false,.nils,.nils])] [0,1,5,6]) (.seq (r [o 10 (.call 27 []),o 7 (.alloc [.bool false,.nils,.nils]),z (.st 3 (.t 7) (.t 10))] [0,1,5,6,7])
  (.seq (.seq (r [o 11 (.mv (.t 0)),o 12 (.mv (.t 1)),o 13 (.call 26 [(.t 11),(.t 12)]),o 14 (.lenS (.t 13)),o 15 (.mv (i 0))] [0,1,5,6,7,13,14,15]) (.block 0 (.loop (.seq (r [o 16 (.bin .lss (.t 15)
  (.t 14))] [0,1,5,6,7,13,14,15,16]) (.seq (.cond (.t 16) .skip (.exit 0)) (.seq (.block 1 (.seq (r [o 17 (.ixA 3 (.t 13) (.t 15)),o 18 (.ld (some 3) (.t 17)),o 9 (.alloc [.int .i64 0,.int .i64 0,
  .nils]),z (.st 3 (.t 9) (.t 18))] [0,1,5,6,7,9,13,14,15]) (r [o 19 (.ld (some 3) (.t 7)),o 20 (.mv (.t 0)),o 21 (.mv (.t 1)),o 22 (.ld (some 3) (.t 9)),o 23 (.ld (some 3) (.t 5)),
  o 24 (.callF 86 [(.t 20),(.t 21),(.t 22),(.t 23)]),o 25 (.callF 17 [(.t 19),(.t 24)]),z (.st 3 (.t 7) (.t 25))] [0,1,5,6,7,13,14,15]))) (r [o 26 (.bin .add (.t 15) (i 1)),o 15 (.mv (.t 26))] [0,1,5,
  6,7,13,14,15]))))))) (.seq (r [o 27 (.ld (some 3) (.t 7)),z (.st 3 (.t 6) (.t 27))] [6]) .ret)))),[.cell 6 (some 3)]⟩
theorem ref36_rest_ok : cFn Tryz.prog (kps [[0,1,5,6],[0,1,5,6,7],[0,1,5,6,7,13,14,15],[0,1,5,6,7,13,14,15,16],[0,1,5,6,7,9,13,14,15],[0,1,5,6,7,13,14,15],[0,1,5,6,7,13,14,15],[6]]) [] 65 = some ref36_rest_c := by kernel_rfl
abbrev ref36_right : Nat := 63
def ref36_right_c : MFn :=
  ⟨11,(.seq (r [o 4 (.mv (.c (.bool false)))] [0,1]) (.seq (r [o 5 (.mv (.t 0)),o 6 (.call 36 [(.t 5)]),o 7 (.mv (.t 6)),y 8 7 (.mv (.t 1)),y 9 7 (.call 36 [(.t 8)]),o 10 (.pick (.t 7) (.t 9)
  (.c (.bool false))),o 4 (.mv (.t 10))] [4]) .ret)),[.t 4]⟩
theorem ref36_right_ok : cFn Tryz.prog (kps [[0,1],[4]]) [] 63 = some ref36_right_c := by kernel_rfl
abbrev ref36_Rest : Nat := 37
def ref36_Rest_c : MFn :=
  ⟨22,(.seq (r [o 5 (.box (.t 2)),o 6 (.alloc [.bool false,.nils,.nils]),o 7 (.mv (i 0))] [0,1,5,6]) (.seq (.seq (r [o 8 (.mv (.t 0)),o 9 (.mv (.t 1)),o 10 (.call 63 [(.t 8),(.t 9)]),
  o 11 (.un .not (.t 10)),o 12 (.mv (.t 11)),n 13 12 (.ld (some 3) (.t 5)),n 14 12 (.call 80 [(.t 13)]),n 15 12 (.un .not (.t 14)),o 16 (.pick (.t 12) (.c (.bool true)) (.t 15))] [0,1,5,6,16])
  (.cond (.t 16) (.seq (r [o 17 (.build [.bool false,.nils,.nils] []),z (.st 3 (.t 6) (.t 17)),o 7 (.mv (i 1))] [6,7]) .ret) .skip)) (.seq (r [o 18 (.mv (.t 0)),o 19 (.mv (.t 1)),o 20 (.ld (some 3)
  (.t 5)),o 21 (.call 65 [(.t 18),(.t 19),(.t 20)]),z (.st 3 (.t 6) (.t 21)),o 7 (.mv (i 0))] [6,7]) .ret))),[.cell 6 (some 3),.t 7]⟩
theorem ref36_Rest_ok : cFn Tryz.prog (kps [[0,1,5,6],[0,1,5,6,16],[6,7],[6,7]]) [] 37 = some ref36_Rest_c := by kernel_rfl
abbrev ref36_Worst : Nat := 40
def ref36_Worst_c : MFn :=
  ⟨41,(.seq (r [o 5 (.box (.t 2)),o 6 (.mv (.c .nils)),o 7 (.mv (i 0))] [0,1,5]) (.seq (.seq (r [o 11 (.mv (.t 0)),o 12 (.mv (.t 1)),o 13 (.call 63 [(.t 11),(.t 12)]),o 14 (.un .not (.t 13)),
  o 15 (.mv (.t 14)),n 16 15 (.ld (some 3) (.t 5)),n 17 15 (.call 80 [(.t 16)]),n 18 15 (.un .not (.t 17)),o 19 (.pick (.t 15) (.c (.bool true)) (.t 18))] [0,1,5,19]) (.cond (.t 19)
  (.seq (r [o 6 (.mv (.c .nils)),o 7 (.mv (i 1))] [6,7]) .ret) .skip)) (.seq (r [o 8 (.mv (.c .nils))] [0,1,5,8]) (.seq (.seq (r [o 20 (.mv (.t 0)),o 21 (.lenS (.t 20)),o 22 (.mv (i 0))] [0,1,5,8,20,
  21,22]) (.block 0 (.loop (.seq (r [o 23 (.bin .lss (.t 22) (.t 21))] [0,1,5,8,20,21,22,23]) (.seq (.cond (.t 23) .skip (.exit 0)) (.seq (.block 1 (.seq (r [o 24 (.ixA 6 (.t 20) (.t 22)),
  o 25 (.ld (some 6) (.t 24)),o 10 (.alloc [.int .i64 0,.int .i64 0,.nils,.bool false,.nils,.nils]),z (.st 6 (.t 10) (.t 25))] [0,1,5,8,10,20,21,22]) (.seq (r [o 26 (.mv (.t 0)),o 27 (.mv (.t 1)),
  o 28 (.fA 0 (.t 10)),o 29 (.ld (some 3) (.t 28)),o 30 (.ld (some 3) (.t 5)),o 31 (.call 86 [(.t 26),(.t 27),(.t 29),(.t 30)]),o 32 (.call 44 [(.t 31)]),o 33 (.bin .gtr (.t 32) (i 0))] [0,1,5,8,10,
  20,21,22,33]) (.cond (.t 33) (r [o 34 (.mv (.t 8)),o 35 (.fA 0 (.t 10)),o 36 (.ld (some 3) (.t 35)),o 37 (.buildSl 3 1 [.int .i64 0,.int .i64 0,.nils] [(0,(.t 36))]),o 38 (.app 3 40 (.t 34)
  (.t 37)),o 8 (.mv (.t 38))] [0,1,5,8,20,21,22]) .skip)))) (r [o 39 (.bin .add (.t 22) (i 1)),o 22 (.mv (.t 39))] [0,1,5,8,20,21,22]))))))) (.seq (r [o 40 (.mv (.t 8)),o 6 (.mv (.t 40)),
  o 7 (.mv (i 0))] [6,7]) .ret))))),[.t 6,.t 7]⟩
theorem ref36_Worst_ok : cFn Tryz.prog (kps [[0,1,5],[0,1,5,19],[6,7],[0,1,5,8],[0,1,5,8,20,21,22],[0,1,5,8,20,21,22,23],[0,1,5,8,10,20,21,22],[0,1,5,8,10,20,21,22,33],[0,1,5,8,20,21,22],[0,1,5,8,20,21,22],[6,7]]) [] 40 = some ref36_Worst_c := by kernel_rfl
abbrev privacy_Holds : Nat := 38
def privacy_Holds_c : MFn :=
  ⟨44,(.seq (r [o 6 (.box (.t 2)),o 7 (.box (.t 3)),o 8 (.mv (.c (.bool false))),o 9 (.mv (i 0))] [0,1,6,7]) (.seq (.seq (r [o 10 (.mv (.t 0)),o 11 (.mv (.t 1)),o 12 (.call 50 [(.t 10),(.t 11)]),
  o 13 (.un .not (.t 12)),o 14 (.mv (.t 13)),n 15 14 (.ld (some 3) (.t 6)),n 16 14 (.call 51 [(.t 15)]),n 17 14 (.un .not (.t 16)),o 18 (.pick (.t 14) (.c (.bool true)) (.t 17)),o 19 (.mv (.t 18)),
  n 20 19 (.ld (some 3) (.t 7)),n 21 19 (.call 85 [(.t 20)]),n 22 19 (.un .not (.t 21)),o 23 (.pick (.t 19) (.c (.bool true)) (.t 22)),o 24 (.mv (.t 23)),n 25 24 (.fA 0 (.t 7)),
  n 26 24 (.ld none (.t 25)),o 27 (.pick (.t 24) (.c (.bool true)) (.t 26))] [0,1,6,7,27]) (.cond (.t 27) (.seq (r [o 8 (.mv (.c (.bool false))),o 9 (.mv (i 1))] [8,9]) .ret) .skip))
  (.seq (r [o 28 (.mv (.t 0)),o 29 (.mv (.t 1)),o 30 (.ld (some 3) (.t 6)),o 31 (.callF 52 [(.t 28),(.t 29),(.t 30)]),o 32 (.ld (some 3) (.t 7)),o 33 (.callF 74 [(.t 31),(.t 32)]),
  o 34 (.bin .leq (.t 33) (i 0)),o 35 (.mv (.t 34)),y 36 35 (.mv (.t 1)),y 37 35 (.mv (.t 0)),y 38 35 (.ld (some 3) (.t 6)),y 39 35 (.callF 52 [(.t 36),(.t 37),(.t 38)]),y 40 35 (.ld (some 3) (.t 7)),
  y 41 35 (.callF 74 [(.t 39),(.t 40)]),y 42 35 (.bin .leq (.t 41) (i 0)),o 43 (.pick (.t 35) (.t 42) (.c (.bool false))),o 8 (.mv (.t 43)),o 9 (.mv (i 0))] [8,9]) .ret))),[.t 8,.t 9]⟩
theorem privacy_Holds_ok : cFn Tryz.prog (kps [[0,1,6,7],[0,1,6,7,27],[8,9],[8,9]]) [] 38 = some privacy_Holds_c := by kernel_rfl
abbrev ref36_Holds : Nat := 39
def ref36_Holds_c : MFn :=
  ⟨45,(.seq (r [o 6 (.box (.t 2)),o 7 (.box (.t 3)),o 8 (.mv (.c (.bool false))),o 9 (.mv (i 0))] [0,1,6,7]) (.seq (.seq (r [o 10 (.mv (.t 0)),o 11 (.mv (.t 1)),o 12 (.call 63 [(.t 10),(.t 11)]),
  o 13 (.un .not (.t 12)),o 14 (.mv (.t 13)),n 15 14 (.ld (some 3) (.t 6)),n 16 14 (.call 80 [(.t 15)]),n 17 14 (.un .not (.t 16)),o 18 (.pick (.t 14) (.c (.bool true)) (.t 17)),o 19 (.mv (.t 18)),
  n 20 19 (.ld (some 3) (.t 7)),n 21 19 (.call 49 [(.t 20)]),n 22 19 (.un .not (.t 21)),o 23 (.pick (.t 19) (.c (.bool true)) (.t 22)),o 24 (.mv (.t 23)),n 25 24 (.ld (some 3) (.t 7)),
  n 26 24 (.call 44 [(.t 25)]),n 27 24 (.bin .lss (.t 26) (i 0)),o 28 (.pick (.t 24) (.c (.bool true)) (.t 27))] [0,1,6,7,28]) (.cond (.t 28) (.seq (r [o 8 (.mv (.c (.bool false))),
  o 9 (.mv (i 1))] [8,9]) .ret) .skip)) (.seq (r [o 29 (.mv (.t 0)),o 30 (.mv (.t 1)),o 31 (.ld (some 3) (.t 6)),o 32 (.callF 65 [(.t 29),(.t 30),(.t 31)]),o 33 (.ld (some 3) (.t 7)),
  o 34 (.callF 16 [(.t 32),(.t 33)]),o 35 (.bin .leq (.t 34) (i 0)),o 36 (.mv (.t 35)),y 37 36 (.mv (.t 1)),y 38 36 (.mv (.t 0)),y 39 36 (.ld (some 3) (.t 6)),y 40 36 (.callF 65 [(.t 37),(.t 38),
  (.t 39)]),y 41 36 (.ld (some 3) (.t 7)),y 42 36 (.callF 16 [(.t 40),(.t 41)]),y 43 36 (.bin .leq (.t 42) (i 0)),o 44 (.pick (.t 36) (.t 43) (.c (.bool false))),o 8 (.mv (.t 44)),o 9 (.mv (i 0))] [8,
  9]) .ret))),[.t 8,.t 9]⟩
theorem ref36_Holds_ok : cFn Tryz.prog (kps [[0,1,6,7],[0,1,6,7,28],[8,9],[8,9]]) [] 39 = some ref36_Holds_c := by kernel_rfl
abbrev law36_sameValues : Nat := 41
def law36_sameValues_c : MFn :=
  ⟨27,(.seq (r [o 4 (.mv (.c (.bool false)))] [0,1]) (.seq (.seq (r [o 6 (.mv (.t 0)),o 7 (.lenS (.t 6)),o 8 (.mv (.t 1)),o 9 (.lenS (.t 8)),o 10 (.bin .neq (.t 7) (.t 9))] [0,1,10]) (.cond (.t 10)
  (.seq (r [o 4 (.mv (.c (.bool false)))] [4]) .ret) .skip)) (.seq (.seq (r [o 11 (.mv (.t 0)),o 12 (.lenS (.t 11)),o 13 (.mv (i 0))] [0,1,12,13]) (.block 0 (.loop (.seq (r [o 14 (.bin .lss (.t 13)
  (.t 12))] [0,1,12,13,14]) (.seq (.cond (.t 14) .skip (.exit 0)) (.seq (.block 1 (.seq (r [o 15 (.mv (.t 13)),o 5 (.mv (.t 15))] [0,1,5,12,13]) (.seq (r [o 16 (.mv (.t 0)),o 17 (.mv (.t 5)),
  o 18 (.ixA 3 (.t 16) (.t 17)),o 19 (.ld (some 3) (.t 18)),o 20 (.mv (.t 1)),o 21 (.mv (.t 5)),o 22 (.ixA 3 (.t 20) (.t 21)),o 23 (.ld (some 3) (.t 22)),o 24 (.callF 70 [(.t 19),(.t 23)]),
  o 25 (.un .not (.t 24))] [0,1,12,13,25]) (.cond (.t 25) (.seq (r [o 4 (.mv (.c (.bool false)))] [4]) .ret) .skip)))) (r [o 26 (.bin .add (.t 13) (i 1)),o 13 (.mv (.t 26))] [0,1,12,13])))))))
  (.seq (r [o 4 (.mv (.c (.bool true)))] [4]) .ret)))),[.t 4]⟩
theorem law36_sameValues_ok : cFn Tryz.prog (kps [[0,1],[0,1,10],[4],[0,1,12,13],[0,1,12,13,14],[0,1,5,12,13],[0,1,12,13,25],[4],[0,1,12,13],[4]]) [] 41 = some law36_sameValues_c := by kernel_rfl
end Go.Proofs.YtipbefckimdkkaaGreat.F

namespace Go.Proofs.YtipbefckimdkkaaGreat
open Go Go.Proofs Go.Proofs.YtipbefckimdkkaaGreat.E
set_option linter.unusedSimpArgs false
set_option linter.unusedVariables false
def moreV (a b : List Part) (r : Rat) (v : Tr) : Rat := posR (wtQ a v - r * wtQ b v)
theorem moreV_fits {a b : List Part} (oa : ∀ p ∈ a, p.Ok 1000000) (ob : ∀ p ∈ b, p.Ok 1000000) {r : Rat} (hr : Fits r 1000000) (v : Tr) : Fits (moreV a b r v) 3000001 :=
  posR_fits ((fits_sub (wtQ_fits oa v) (prod_fits ob hr v)).mono (by omega)) (by omega)
theorem moreV_at {a b : List Part} (ga : Good a) {p : Part} (hp : p ∈ a) (r : Rat) : moreV a b r p.v = moreQ p b r := by
  unfold moreV moreQ; rw [wtQ_mem (dist_of ga.rise) hp]
theorem ref36_more {a b : List Part} {v : Tr} {x : Raw} (ga : Good a) (gb : Good b) (hv : v.Ok) (hx : x.Ok 1000000) : CallD Tryz.prog F.ref36_more [pl a, pl b, .agg v.cells, x.v] (· = ratV (moreV a b x.q v)) := by
  have la := ga.le
  have lb := gb.le
  have hx31 : x.Ok (2 ^ 31) := hx.mono (by omega)
  have fx := Raw.fits hx (by omega)
  have fa' : (rawOf (wtQ a v)).Ok (2 ^ 31) := rawOf_ok ((wtQ_fits ga.ok v).mono (by omega))
  have fb' : (rawOf (wtQ b v)).Ok (2 ^ 31) := rawOf_ok ((wtQ_fits gb.ok v).mono (by omega))
  have fp' : (rawOf (x.q * wtQ b v)).Ok (2 ^ 31) := rawOf_ok ((prod_fits gb.ok fx v).mono (by omega))
  have fd : Fits (wtQ a v - x.q * wtQ b v) 3000001 := (fits_sub (wtQ_fits ga.ok v) (prod_fits gb.ok fx v)).mono (by omega)
  refine callD_by F.ref36_more_ok ?_
  unfold F.ref36_more_c
  simp [setOb, List.filter_cons, raw_v]
  refine callFK_of (ref35_Weight (by omega) ga.ok ga.norm hv) (by simp [toD_cells]) ?_
  simp [ratV, raw_v]
  refine callFK_of (ref35_Weight (by omega) gb.ok gb.norm hv) (by simp [toD_cells]) ?_
  simp [ratV, raw_v]
  refine callFK_of (ref02_Mul hx31 fb') (by simp [toD_rawc, raw_v]) ?_
  simp [ratV, raw_v, rawOf_q]
  refine callFK_of (ref02_Sub fa' fp') (by simp [toD_rawc, raw_v]) ?_
  simp [ratV, raw_v, rawOf_q, setOb, List.filter_cons]
  refine callK_of (ref02_Sign (rawOf_ok (fd.mono (by omega)))) (by simp [toD_rawc, raw_v]) ?_
  rw [rawOf_q]
  by_cases hn : wtQ a v - x.q * wtQ b v < 0
  · have hs : sgnR (wtQ a v - x.q * wtQ b v) < 0 := by unfold sgnR; rw [cmpR_lt]; exact hn
    have e : moreV a b x.q v = 0 := if_pos hn
    simp [hs]
    refine callK_of ref02_Zero (by simp) ?_
    simp [setOb, List.filter_cons, ratV, raw_v, toD_rawc, e]
  · have hs : ¬ sgnR (wtQ a v - x.q * wtQ b v) < 0 := by unfold sgnR; rw [cmpR_lt]; exact hn
    have e : moreV a b x.q v = wtQ a v - x.q * wtQ b v := if_neg hn
    simp [hs, setOb, List.filter_cons, ratV, raw_v, toD_rawc, e]
theorem ref36_rest {a b : List Part} {x : Raw} (ga : Good a) (gb : Good b) (hx : x.Ok 1000000) (x0 : 0 ≤ x.q) : CallD Tryz.prog F.ref36_rest [pl a, pl b, x.v] (· = ratV (restQ a b x.q)) := by
  have la := ga.le
  have lb := gb.le
  have lv := vals_len a b
  have fx := Raw.fits hx (by omega)
  refine callD_by F.ref36_rest_ok ?_
  unfold F.ref36_rest_c
  simp [setOb, List.filter_cons, raw_v]
  refine callK_of ref02_Zero (by simp) ?_
  simp [setOb, List.filter_cons, ratV, raw_v]
  refine callK_of (ref35_Values (by omega) (by omega) ga gb.ok) (by simp) ?_
  simp
  refine wm_loop (fun g : Nat => ((((((((Sl.empty.set 15 (.int .i64 g)).set 14 (.int .i64 (valsT a b).length)).set 13 (tl (valsT a b))).set 7 (.ptr 2 0 0)).set 6 (.ptr 1 0 0)).set 5 (.ptr 0 0 0)).set 1 (pl b)).set 0 (pl a),
      [(0, ⟨.own, 3, [x.c]⟩), (1, ⟨.own, 3, [[.bool false, .nils, .nils]]⟩), (2, ⟨.own, 3, [(rawOf (sumBy (moreV a b x.q) ((valsT a b).take g))).c]⟩)]))
    (fun g => g ≤ (valsT a b).length) (fun g => (valsT a b).length - g) 0 (by omega) ?_ ?_
  · refine weak_obs ?_ (by simp [sumBy]) (by repeat (first | exact sin_empty | refine sin_set (by simp) ?_)) ?_
    · repeat (first | exact sub_empty | refine sub_set (by simp) ?_)
    · simp; exact ⟨fun y hy => rawc_within _ y hy, fun y hy => rawc_within _ y hy⟩
  intro i hi
  by_cases h1 : i < (valsT a b).length
  · generalize hval : (valsT a b)[i] = v
    have okv : v.Ok := by rw [← hval]; exact vals_ok ga.ok gb.ok _ (List.getElem_mem h1)
    have hst := sumBy_take (f := moreV a b x.q) h1
    rw [hval] at hst
    have hacc : Fits (sumBy (moreV a b x.q) ((valsT a b).take i)) (2 ^ 30) := (sumBy_fits (k := 3000001) _ fun v _ => moreV_fits ga.ok gb.ok fx v).mono (by
      have h1 : ((valsT a b).take i).length ≤ 200 := by rw [List.length_take]; omega
      have : ((valsT a b).take i).length * (3000001 + 1) ≤ 200 * 3000002 := Nat.mul_le_mul_right _ h1
      omega)
    simp [h1, setOb, List.filter_cons, hval]
    refine callFK_of (ref36_more ga gb okv hx) (by simp [toD_rawc, toD_cells, raw_v]) ?_
    simp [ratV, raw_v]
    refine callFK_of (ref02_Add (rawOf_ok (hacc.mono (by omega))) (rawOf_ok ((moreV_fits ga.ok gb.ok fx v).mono (by omega)))) (by simp [toD_rawc, raw_v]) ?_
    rw [rawOf_q, rawOf_q, ← hst]
    simp [ratV, raw_v, setOb, List.filter_cons]
    rw [wrap64 (by omega) (by omega)]
    refine ⟨i + 1, h1, by dsimp only; omega, ?_⟩
    refine weak_obs ?_ (by simp) (by repeat (first | exact sin_empty | refine sin_set (by simp) ?_)) ?_
    · repeat (first | exact sub_empty | refine sub_set (by simp) ?_)
    · simp; exact ⟨fun y hy => rawc_within _ y hy, fun y hy => rawc_within _ y hy⟩
  · have hil : i = (valsT a b).length := by omega
    subst hil
    have e : sumBy (moreV a b x.q) (valsT a b) = restQ a b x.q := rest_vals ga gb x0
    rw [List.take_length, e]
    simp [setOb, List.filter_cons, toD_rawc, ratV, raw_v]
theorem ref36_right {a b : List Part} (la : a.length ≤ 1000) (lb : b.length ≤ 1000) (oa : ∀ p ∈ a, p.Ok 1000000) (ob : ∀ p ∈ b, p.Ok 1000000) : CallD Tryz.prog F.ref36_right [pl a, pl b] (· = .bool (rightP a && rightP b)) := by
  refine callD_by F.ref36_right_ok ?_
  unfold F.ref36_right_c
  simp
  refine callK_of (ref35_Right (by omega) oa) (by simp) ?_
  cases hra : rightP a with
  | false => simp
  | true =>
  simp
  refine callK_of (ref35_Right (by omega) ob) (by simp) ?_
  simp
theorem rated_nn {x : Raw} (h : ratedB x = true) : 0 ≤ x.q := by have := one_of_rated h; grind
theorem ref36_Rest {a b : List Part} {x : Raw} (la : a.length ≤ 1000) (lb : b.length ≤ 1000) (oa : ∀ p ∈ a, p.Ok 1000000) (ob : ∀ p ∈ b, p.Ok 1000000) (hx : x.Ok 1000000) : CallD Tryz.prog F.ref36_Rest [pl a, pl b, x.v] (· = restV a b x) := by
  refine callD_by F.ref36_Rest_ok ?_
  unfold F.ref36_Rest_c restV
  simp [setOb, List.filter_cons, raw_v]
  refine callK_of (ref36_right la lb oa ob) (by simp) ?_
  cases hra : rightP a with
  | false => simp [setOb, List.filter_cons]
  | true =>
  cases hrb : rightP b with
  | false => simp [setOb, List.filter_cons]
  | true =>
  simp
  refine callK_of (ref36_rated (hx.mono (by omega))) (by simp [toD_rawc, raw_v]) ?_
  cases hr : ratedB x with
  | false => simp [setOb, List.filter_cons]
  | true =>
  simp
  refine callK_of (ref36_rest (good_of hra oa) (good_of hrb ob) hx (rated_nn hr)) (by simp [toD_rawc, raw_v]) ?_
  simp [setOb, List.filter_cons, ratV, raw_v, toD_rawc]
end Go.Proofs.YtipbefckimdkkaaGreat

namespace Go.Proofs.YtipbefckimdkkaaGreat
open Go Go.Proofs Go.Proofs.YtipbefckimdkkaaGreat.E
set_option linter.unusedSimpArgs false
set_option linter.unusedVariables false
def worstV (a b : List Part) (x : Raw) : V := if (rightP a && rightP b) && ratedB x then .tup [tl (worstT a b x.q), .int .i64 0] else .tup [.dat [], .int .i64 1]
theorem worstV_ok {a b : List Part} {x : Raw} (ha : rightP a = true) (hb : rightP b = true) (hx : ratedB x = true) : worstV a b x = .tup [tl (worstT a b x.q), .int .i64 0] := by unfold worstV; rw [ha, hb, hx]; rfl
theorem privacy_WorstV {a b : List Part} {x : Raw} (la : a.length ≤ 1000) (lb : b.length ≤ 1000) (oa : ∀ p ∈ a, p.Ok 1000000) (ob : ∀ p ∈ b, p.Ok 1000000) (hx : x.Ok 1000000) (hm : ∀ p ∈ a, manyT p.v ≤ 60) : CallD Tryz.prog F.privacy_Worst [pl a, pl b, x.v] (· = worstV a b x) := by
  by_cases h : ((rightP a && rightP b) && ratedB x) = true
  · have h' := h
    simp only [Bool.and_eq_true] at h'
    rw [worstV_ok h'.1.1 h'.1.2 h'.2]
    exact privacy_Worst h'.1.1 h'.1.2 h'.2 oa ob hx hm
  · have hf : ((rightP a && rightP b) && ratedB x) = false := by simpa using h
    have e : worstV a b x = .tup [.dat [], .int .i64 1] := by unfold worstV; rw [hf]; rfl
    rw [e]
    refine callD_by F.privacy_Worst_ok ?_
    unfold F.privacy_Worst_c
    simp [setOb, List.filter_cons, raw_v]
    refine callK_of (privacy_both (by omega) (by omega) oa ob) (by simp) ?_
    cases hb : (rightP a && rightP b) with
    | false => simp [setOb, List.filter_cons]
    | true =>
    rw [hb, Bool.true_and] at hf
    simp
    refine callK_of (privacy_rated (hx.mono (by omega))) (by simp [toD_rawc, raw_v]) ?_
    rw [hf]
    simp [setOb, List.filter_cons]
set_option maxHeartbeats 8000000 in
theorem ref36_Worst {a b : List Part} {x : Raw} (la : a.length ≤ 1000) (lb : b.length ≤ 1000) (oa : ∀ p ∈ a, p.Ok 1000000) (ob : ∀ p ∈ b, p.Ok 1000000) (hx : x.Ok 1000000) : CallD Tryz.prog F.ref36_Worst [pl a, pl b, x.v] (· = worstV a b x) := by
  refine callD_by F.ref36_Worst_ok ?_
  unfold F.ref36_Worst_c worstV
  simp [setOb, List.filter_cons, raw_v]
  refine callK_of (ref36_right la lb oa ob) (by simp) ?_
  cases ra : rightP a with
  | false => simp [setOb, List.filter_cons]
  | true =>
  cases rb : rightP b with
  | false => simp [setOb, List.filter_cons]
  | true =>
  simp
  refine callK_of (ref36_rated (hx.mono (by omega))) (by simp [toD_rawc, raw_v]) ?_
  cases rx : ratedB x with
  | false => simp [setOb, List.filter_cons]
  | true =>
  have ga := good_of ra oa
  have gb := good_of rb ob
  have la := ga.le
  have lb := gb.le
  simp
  refine wm_loop (fun g : Nat × Nat => (((((((Sl.empty.set 22 (.int .i64 g.2)).set 21 (.int .i64 a.length)).set 20 (pl a)).set 8 (grown g.1 (worstT (a.take g.2) b x.q).length)).set 5 (.ptr 0 0 0)).set 1 (pl b)).set 0 (pl a), [(0, ⟨.own, 3, [x.c]⟩)] ++ grownS g.1 3 (worstT (a.take g.2) b x.q).length ((worstT (a.take g.2) b x.q).map Tr.cells)))
    (fun g => g.2 ≤ a.length ∧ 0 < g.1) (fun g => a.length - g.2) (1, 0) (by simp) ?_ ?_
  · refine weak_obs ?_ (by simp [worstT, grown_zero, grownS_zero]) (by repeat (first | exact sin_empty | refine sin_set (by simp [worstT, grown_zero]) ?_)) (by simp [worstT, grown_zero, grownS_zero]; exact fun y hy => rawc_within _ y hy)
    simp only [List.take_zero, worstT, List.filter_nil, List.map_nil, List.length_nil, grown_zero]
    repeat (first | exact sub_empty | refine sub_set (by simp) ?_)
  rintro ⟨o, j⟩ ⟨hj, o0⟩
  dsimp only at hj o0
  have o0' : ¬ o = 0 := by omega
  have wi : ∀ (l : List Tr) (r : List V), r ∈ l.map Tr.cells → ∀ (y : V), y ∈ r → ∀ (p : Nat → Bool), V.within p y = true := fun l r hr y hy p => by
    obtain ⟨x, _, rfl⟩ := List.mem_map.1 hr
    exact cells_within _ y hy
  by_cases h2 : j < a.length
  · have okp := oa a[j] (List.getElem_mem h2)
    have hst := worstT_take (b := b) (r := x.q) h2
    have lim : (worstT (a.take j) b x.q).length ≤ 100 := by
      unfold worstT
      rw [List.length_map]
      have h1 := List.length_filter_le (fun p : Part => decide (¬ moreQ p b x.q = 0)) (a.take j)
      have h3 : (a.take j).length ≤ a.length := by rw [List.length_take]; omega
      omega
    have tk : List.take 6 (partC a[j]) = partC a[j] := by simp
    have mf := more_fits okp gb.ok (Raw.fits hx (by omega))
    have emv : moreV a b x.q a[j].v = moreQ a[j] b x.q := moreV_at ga (List.getElem_mem h2) x.q
    have f33 : (rawOf (moreQ a[j] b x.q)).Ok (2 ^ 33) := rawOf_ok (mf.mono (by omega))
    have mnn : 0 ≤ moreQ a[j] b x.q := posR_nn _
    generalize hW : worstT (a.take j) b x.q = W at *
    have wiW := wi W
    by_cases hz : moreQ a[j] b x.q = 0
    · rw [if_pos hz] at hst
      have hn : ¬ 0 < sgnR (moreQ a[j] b x.q) := by rw [hz]; have := sgnR_eq.2 (rfl : (0 : Rat) = 0); omega
      by_cases n0 : W = []
      · subst n0
        simp [h2, grown_zero, grownS_zero, setOb, List.filter_cons]
        refine callK_of (ref36_more ga gb okp.v hx) (by simp [toD_rawc, toD_cells, raw_v]) ?_
        rw [emv]
        simp [ratV, raw_v, setOb, List.filter_cons]
        refine callK_of (ref02_Sign f33) (by simp [toD_rawc, raw_v]) ?_
        rw [rawOf_q]
        simp [hn, setOb, List.filter_cons]
        rw [wrap64 (by omega) (by omega)]
        refine ⟨(o, j + 1), ⟨h2, o0⟩, by dsimp only; omega, ?_⟩
        dsimp only
        rw [hst]
        refine weak_obs ?_ (by simp [grownS_zero]) (by simp only [List.length_nil, grown_zero]; repeat (first | exact sin_empty | refine sin_set (by simp) ?_)) (by simp [grownS_zero]; exact fun y hy => rawc_within _ y hy)
        simp only [List.length_nil, grown_zero]
        repeat (first | exact sub_empty | refine sub_set (by simp) ?_)
      · have n0' : W.length ≠ 0 := fun h => n0 (List.length_eq_zero_iff.1 h)
        simp (disch := omega) [h2, grown_pos n0', grownS_pos n0', setOb, List.filter_cons, Nat.max_eq_right, Nat.max_eq_left, if_neg, if_pos]
        refine callK_of (ref36_more ga gb okp.v hx) (by simp [toD_rawc, toD_cells, raw_v]) ?_
        rw [emv]
        simp (disch := omega) [ratV, raw_v, setOb, List.filter_cons, Nat.max_eq_right, Nat.max_eq_left, if_neg, if_pos]
        refine callK_of (ref02_Sign f33) (by simp [toD_rawc, raw_v]) ?_
        rw [rawOf_q]
        simp (disch := omega) [hn, setOb, List.filter_cons, Nat.max_eq_right, Nat.max_eq_left, if_neg, if_pos]
        rw [wrap64 (by omega) (by omega)]
        refine ⟨(o, j + 1), ⟨h2, o0⟩, by dsimp only; omega, ?_⟩
        dsimp only
        rw [hst]
        refine weak_obs ?_ ?_ (by simp only [grown_pos n0']; repeat (first | exact sin_empty | refine sin_set (by simp [grownS_pos n0']) ?_)) ?_
        · simp only [grown_pos n0']
          repeat (first | exact sub_empty | refine sub_set (by simp) ?_)
        · simp (disch := omega) [grownS_pos n0', o0', if_neg]
        · simp only [grownS_pos n0']
          intro p hp r hr y hy
          simp at hp
          rcases hp with rfl | rfl
          · simp at hr; subst hr; exact rawc_within _ y hy
          · exact wiW r hr y hy _
    · rw [if_neg hz] at hst
      have hn : 0 < sgnR (moreQ a[j] b x.q) := by
        have h5 : ¬ sgnR (moreQ a[j] b x.q) = 0 := fun h => hz (sgnR_eq.1 h)
        have h6 : ¬ sgnR (moreQ a[j] b x.q) < 0 := fun h => by unfold sgnR at h; rw [cmpR_lt] at h; grind
        omega
      by_cases n0 : W = []
      · subst n0
        simp [h2, grown_zero, grownS_zero, setOb, List.filter_cons]
        refine callK_of (ref36_more ga gb okp.v hx) (by simp [toD_rawc, toD_cells, raw_v]) ?_
        rw [emv]
        simp [ratV, raw_v, setOb, List.filter_cons]
        refine callK_of (ref02_Sign f33) (by simp [toD_rawc, raw_v]) ?_
        rw [rawOf_q]
        simp [hn, setOb, List.filter_cons]
        rw [wrap64 (by omega) (by omega)]
        refine ⟨(3, j + 1), ⟨h2, by simp⟩, by dsimp only; omega, ?_⟩
        dsimp only
        rw [hst]
        simp only [List.nil_append, List.length_singleton, grown_pos (show 1 ≠ 0 by omega), grownS_pos (show 1 ≠ 0 by omega)]
        refine weak_obs ?_ (by simp) (by repeat (first | exact sin_empty | refine sin_set (by simp) ?_)) ?_
        · repeat (first | exact sub_empty | refine sub_set (by simp) ?_)
        · intro p hp r hr y hy
          simp at hp
          rcases hp with rfl | rfl
          · simp at hr; subst hr; exact rawc_within _ y hy
          · exact wi [a[j].v] r (by simpa using hr) y hy _
      · have n0' : W.length ≠ 0 := fun h => n0 (List.length_eq_zero_iff.1 h)
        simp (disch := omega) [h2, grown_pos n0', grownS_pos n0', setOb, List.filter_cons, Nat.max_eq_right, Nat.max_eq_left, if_neg, if_pos]
        refine callK_of (ref36_more ga gb okp.v hx) (by simp [toD_rawc, toD_cells, raw_v]) ?_
        rw [emv]
        simp (disch := omega) [ratV, raw_v, setOb, List.filter_cons, Nat.max_eq_right, Nat.max_eq_left, if_neg, if_pos]
        refine callK_of (ref02_Sign f33) (by simp [toD_rawc, raw_v]) ?_
        rw [rawOf_q]
        simp (disch := omega) [hn, setOb, List.filter_cons, Nat.max_eq_right, Nat.max_eq_left, if_neg, if_pos]
        rw [wrap64 (by omega) (by omega)]
        refine ⟨(o + 3, j + 1), ⟨h2, by simp⟩, by dsimp only; omega, ?_⟩
        dsimp only
        rw [hst]
        have n1 : (W ++ [a[j].v]).length ≠ 0 := by simp
        simp only [grown_pos n1, grownS_pos n1]
        refine weak_obs ?_ ?_ (by repeat (first | exact sin_empty | refine sin_set (by simp) ?_)) ?_
        · rw [List.length_append]
          repeat (first | exact sub_empty | refine sub_set (by simp) ?_)
        · simp [o0']
        · intro p hp r hr y hy
          simp at hp
          rcases hp with rfl | rfl
          · simp at hr; subst hr; exact rawc_within _ y hy
          · exact wi (W ++ [a[j].v]) r (by simpa using hr) y hy _
  · have hjl : j = a.length := by omega
    subst hjl
    rw [List.take_length]
    simp [h2]
    rw [toD_grown (k := 10) (st := .own) (es := 3) (l := (worstT a b x.q).map Tr.cells) (fun h => by simp [grownS_pos h, E.look]; omega) (by simp) (by simp) (by simp) (fun r hr => by obtain ⟨x, _, rfl⟩ := List.mem_map.1 hr; exact toD_cells _ _ _)]
def holdsV (a b : List Part) (x y : Raw) : V := if (((rightP a && rightP b) && ratedB x) && y.right) && !decide (y.q < 0) then .tup [.bool (decide (restQ a b x.q ≤ y.q) && decide (restQ b a x.q ≤ y.q)), .int .i64 0] else .tup [.bool false, .int .i64 1]
theorem neg_right {y : Raw} {k : Nat} (hy : y.Ok k) (h : y.right = true) : y.neg = decide (y.q < 0) := by
  have e := same_raw hy h
  have : (rawOf y.q).neg = decide (y.q < 0) := rfl
  rw [← this, ← e]
theorem cmpR_le0 {a b : Rat} : cmpR a b ≤ 0 ↔ a ≤ b := cmpR_le
theorem privacy_Holds {a b : List Part} {x y : Raw} (la : a.length ≤ 1000) (lb : b.length ≤ 1000) (oa : ∀ p ∈ a, p.Ok 1000000) (ob : ∀ p ∈ b, p.Ok 1000000) (hx : x.Ok 1000000) (hy : y.Ok 1000000) : CallD Tryz.prog F.privacy_Holds [pl a, pl b, x.v, y.v] (· = holdsV a b x y) := by
  refine callD_by F.privacy_Holds_ok ?_
  unfold F.privacy_Holds_c holdsV
  simp [setOb, List.filter_cons, raw_v]
  refine callK_of (privacy_both (by omega) (by omega) oa ob) (by simp) ?_
  cases ra : rightP a with
  | false => simp [setOb, List.filter_cons]
  | true =>
  cases rb : rightP b with
  | false => simp [setOb, List.filter_cons]
  | true =>
  simp
  refine callK_of (privacy_rated (hx.mono (by omega))) (by simp [toD_rawc, raw_v]) ?_
  cases rx : ratedB x with
  | false => simp [setOb, List.filter_cons]
  | true =>
  simp
  refine callK_of (ratio_Right (hy.mono (by omega))) (by simp [toD_rawc, raw_v]) ?_
  cases ry : y.right with
  | false => simp [setOb, List.filter_cons]
  | true =>
  have ga := good_of ra oa
  have gb := good_of rb ob
  have la := ga.le
  have lb := gb.le
  have fx := Raw.fits hx (by omega)
  have f1 := rest_fits ga.ok gb.ok fx (by omega)
  have f2 := rest_fits gb.ok ga.ok fx (by omega)
  have en := neg_right hy ry
  by_cases hneg : y.q < 0
  · have en' : y.neg = true := by rw [en]; simp [hneg]
    simp [rawc_0, en', hneg, setOb, List.filter_cons]
  · have en' : y.neg = false := by rw [en]; simp [hneg]
    simp [rawc_0, en', hneg, setOb, List.filter_cons]
    refine callFK_of (privacy_rest ga gb hx) (by simp [toD_rawc, raw_v]) ?_
    simp [ratV, raw_v]
    refine callFK_of (ratio_Compare (rawOf_ok (f1.mono (by omega))) (hy.mono (by omega))) (by simp [toD_rawc, raw_v]) ?_
    rw [rawOf_q]
    by_cases h1 : restQ a b x.q ≤ y.q
    · simp [cmpR_le0.2 h1, h1]
      refine callFK_of (privacy_rest gb ga hx) (by simp [toD_rawc, raw_v]) ?_
      simp [ratV, raw_v]
      refine callFK_of (ratio_Compare (rawOf_ok (f2.mono (by omega))) (hy.mono (by omega))) (by simp [toD_rawc, raw_v]) ?_
      rw [rawOf_q]
      simp [cmpR_le0]
    · have : ¬ cmpR (restQ a b x.q) y.q ≤ 0 := fun h => h1 (cmpR_le0.1 h)
      simp [this, h1]
theorem ref36_Holds {a b : List Part} {x y : Raw} (la : a.length ≤ 1000) (lb : b.length ≤ 1000) (oa : ∀ p ∈ a, p.Ok 1000000) (ob : ∀ p ∈ b, p.Ok 1000000) (hx : x.Ok 1000000) (hy : y.Ok 1000000) : CallD Tryz.prog F.ref36_Holds [pl a, pl b, x.v, y.v] (· = holdsV a b x y) := by
  refine callD_by F.ref36_Holds_ok ?_
  unfold F.ref36_Holds_c holdsV
  simp [setOb, List.filter_cons, raw_v]
  refine callK_of (ref36_right la lb oa ob) (by simp) ?_
  cases ra : rightP a with
  | false => simp [setOb, List.filter_cons]
  | true =>
  cases rb : rightP b with
  | false => simp [setOb, List.filter_cons]
  | true =>
  simp
  refine callK_of (ref36_rated (hx.mono (by omega))) (by simp [toD_rawc, raw_v]) ?_
  cases rx : ratedB x with
  | false => simp [setOb, List.filter_cons]
  | true =>
  simp
  refine callK_of (ref02_Right (hy.mono (by omega))) (by simp [toD_rawc, raw_v]) ?_
  cases ry : y.right with
  | false => simp [setOb, List.filter_cons]
  | true =>
  have ga := good_of ra oa
  have gb := good_of rb ob
  have la := ga.le
  have lb := gb.le
  have fx := Raw.fits hx (by omega)
  have x0 := rated_nn rx
  have f1 := rest_fits ga.ok gb.ok fx (by omega)
  have f2 := rest_fits gb.ok ga.ok fx (by omega)
  simp
  refine callK_of (ref02_Sign (hy.mono (by omega))) (by simp [toD_rawc, raw_v]) ?_
  by_cases hneg : y.q < 0
  · have hs : sgnR y.q < 0 := by unfold sgnR; rw [cmpR_lt]; exact hneg
    simp [hs, hneg, setOb, List.filter_cons]
  · have hs : ¬ sgnR y.q < 0 := by unfold sgnR; rw [cmpR_lt]; exact hneg
    simp [hs, hneg, setOb, List.filter_cons]
    refine callFK_of (ref36_rest ga gb hx x0) (by simp [toD_rawc, raw_v]) ?_
    simp [ratV, raw_v]
    refine callFK_of (ref02_Compare (rawOf_ok (f1.mono (by omega))) (hy.mono (by omega))) (by simp [toD_rawc, raw_v]) ?_
    rw [rawOf_q]
    by_cases h1 : restQ a b x.q ≤ y.q
    · simp [cmpR_le0.2 h1, h1]
      refine callFK_of (ref36_rest gb ga hx x0) (by simp [toD_rawc, raw_v]) ?_
      simp [ratV, raw_v]
      refine callFK_of (ref02_Compare (rawOf_ok (f2.mono (by omega))) (hy.mono (by omega))) (by simp [toD_rawc, raw_v]) ?_
      rw [rawOf_q]
      simp [cmpR_le0]
    · have : ¬ cmpR (restQ a b x.q) y.q ≤ 0 := fun h => h1 (cmpR_le0.1 h)
      simp [this, h1]
theorem law36_sameValues {l : List Tr} (hl : l.length ≤ 1000) (ho : ∀ v ∈ l, v.Ok) : CallD Tryz.prog F.law36_sameValues [tl l, tl l] (· = .bool true) := by
  refine callD_by F.law36_sameValues_ok ?_
  unfold F.law36_sameValues_c
  simp
  refine wm_loop (fun g : Nat => ((((Sl.empty.set 13 (.int .i64 g)).set 12 (.int .i64 l.length)).set 1 (tl l)).set 0 (tl l), [])) (fun g => g ≤ l.length) (fun g => l.length - g) 0 (by omega) ?_ ?_
  · exact weak_p (by repeat (first | exact sub_empty | refine sub_set (by simp) ?_)) (by repeat (first | exact sin_empty | refine sin_set (by simp) ?_))
  intro i hi
  by_cases h1 : i < l.length
  · have okv := ho _ (List.getElem_mem h1)
    simp [h1]
    refine callFK_of (ref03_Same okv okv) (by simp [toD_cells]) ?_
    simp [cmpT_self]
    rw [wrap64 (by omega) (by omega)]
    refine ⟨i + 1, h1, by dsimp only; omega, ?_⟩
    exact weak_p (by repeat (first | exact sub_empty | refine sub_set (by simp) ?_)) (by repeat (first | exact sin_empty | refine sin_set (by simp) ?_))
  · simp [h1]
end Go.Proofs.YtipbefckimdkkaaGreat
