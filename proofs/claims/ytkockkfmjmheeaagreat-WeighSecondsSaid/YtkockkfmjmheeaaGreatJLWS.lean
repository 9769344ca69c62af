/- WeighSeconds, over data. -/
import Derived.Test.YtkockkfmjmheeaaGreatKG
import Derived.Test.YtkockkfmjmheeaaGreatKC
namespace Go.Proofs.YtkockkfmjmheeaaGreat.F
open Go Go.Proofs Go.Proofs.YtkockkfmjmheeaaGreat.E Go.Proofs.YtkockkfmjmheeaaGreat.Q
abbrev law31_short : Nat := 9
def law31_short_c : MFn := ⟨50,(.seq (r [o 2 (.mv (.c (.bool false)))] [0]) (.seq (.seq (r [o 4 (.mv (.t 0)),o 5 (.lenS (.t 4)),o 6 (.bin .gtr (.t 5) (i 60))] [0,6]) (.cond (.t 6) (.seq (r [o 2 (.mv (.c (.bool false)))] [2]) .ret) .skip)) (.seq (.seq (r [o 7 (.mv (.t 0)),o 8 (.lenS (.t 7)),o 9 (.mv (i 0))] [0,8,9]) (.block 0 (.loop (.seq (r [o 10 (.bin .lss (.t 9) (.t 8))] [0,8,9,10]) (.seq (.cond (.t 10) .skip (.exit 0)) (.seq (.block 1 (.seq (r [o 11 (.mv (.t 9)),o 3 (.mv (.t 11))] [0,3,8,9]) (.seq (r [o 12 (.mv (.t 0)),o 13 (.mv (.t 3)),o 14 (.ixA 9 (.t 12) (.t 13)),o 15 (.fA 5 (.t 14)),o 16 (.ld none (.t 15)),o 17 (.lenS (.t 16)),o 18 (.bin .gtr (.t 17) (i 12)),o 19 (.mv (.t 18)),n 20 19 (.mv (.t 0)),n 21 19 (.mv (.t 3)),n 22 19 (.ixA 9 (.t 20) (.t 21)),n 23 19 (.fA 6 (.t 22)),n 24 19 (.fA 1 (.t 23)),n 25 19 (.ld none (.t 24)),n 26 19 (.lenS (.t 25)),n 27 19 (.bin .gtr (.t 26) (i 8)),o 28 (.pick (.t 19) (.c (.bool true)) (.t 27)),o 29 (.mv (.t 28)),n 30 29 (.mv (.t 0)),n 31 29 (.mv (.t 3)),n 32 29 (.ixA 9 (.t 30) (.t 31)),n 33 29 (.fA 6 (.t 32)),n 34 29 (.fA 2 (.t 33)),n 35 29 (.ld none (.t 34)),n 36 29 (.lenS (.t 35)),n 37 29 (.bin .gtr (.t 36) (i 8)),o 38 (.pick (.t 29) (.c (.bool true)) (.t 37)),o 39 (.mv (.t 38)),n 40 39 (.mv (.t 0)),n 41 39 (.mv (.t 3)),n 42 39 (.ixA 9 (.t 40) (.t 41)),n 43 39 (.fA 0 (.t 42)),n 44 39 (.fA 2 (.t 43)),n 45 39 (.ld (some 3) (.t 44)),n 46 39 (.call 10 [(.t 45)]),n 47 39 (.bin .gtr (.t 46) (i 100)),o 48 (.pick (.t 39) (.c (.bool true)) (.t 47))] [0,8,9,48]) (.cond (.t 48) (.seq (r [o 2 (.mv (.c (.bool false)))] [2]) .ret) .skip)))) (r [o 49 (.bin .add (.t 9) (i 1)),o 9 (.mv (.t 49))] [0,8,9]))))))) (.seq (r [o 2 (.mv (.c (.bool true)))] [2]) .ret)))),[.t 2]⟩
theorem law31_short_ok : cFn Tryz.prog (kps [[0],[0,6],[2],[0,8,9],[0,8,9,10],[0,3,8,9],[0,8,9,48],[2],[0,8,9],[2]]) [] 9 = some law31_short_c := by kernel_rfl
abbrev law31_WeighSeconds : Nat := 4
def law31_WeighSeconds_c : MFn := ⟨64,(.seq (r [o 3 (.box (.t 1)),o 4 (.mv (.c (.bool false)))] [0,3]) (.seq (.seq (r [o 13 (.mv (.t 0)),o 14 (.call 9 [(.t 13)]),o 15 (.un .not (.t 14)),o 16 (.mv (.t 15)),n 17 16 (.ld (some 3) (.t 3)),n 18 16 (.call 10 [(.t 17)]),n 19 16 (.bin .gtr (.t 18) (i 100)),o 20 (.pick (.t 16) (.c (.bool true)) (.t 19))] [0,3,20]) (.cond (.t 20) (.seq (r [o 4 (.mv (.c (.bool true)))] [4]) .ret) .skip)) (.seq (r [o 22 (.mv (.t 0)),o 23 (.ld (some 3) (.t 3)),o 24 (.call 11 [(.t 22),(.t 23)]),o 21 (.mv (.t 24)),o 25 (.ext (.t 21) 0),o 26 (.ext (.t 21) 1),o 5 (.alloc zR),z (.st 3 (.t 5) (.t 25)),o 6 (.mv (.t 26))] [0,3,5,6]) (.seq (r [o 28 (.mv (.t 0)),o 29 (.ld (some 3) (.t 3)),o 30 (.call 12 [(.t 28),(.t 29)]),o 27 (.mv (.t 30)),o 31 (.ext (.t 27) 0),o 32 (.ext (.t 27) 1),o 7 (.alloc zR),z (.st 3 (.t 7) (.t 31)),o 8 (.mv (.t 32))] [0,5,6,7,8]) (.seq (r [o 34 (.mv (.t 0)),o 35 (.call 13 [(.t 34)]),o 33 (.mv (.t 35)),o 36 (.ext (.t 33) 0),o 37 (.ext (.t 33) 1),o 9 (.alloc zR),z (.st 3 (.t 9) (.t 36)),o 10 (.mv (.t 37))] [0,5,6,7,8,9,10]) (.seq (r [o 39 (.mv (.t 0)),o 40 (.call 14 [(.t 39)]),o 38 (.mv (.t 40)),o 41 (.ext (.t 38) 0),o 42 (.ext (.t 38) 1),o 11 (.alloc zR),z (.st 3 (.t 11) (.t 41)),o 12 (.mv (.t 42))] [5,6,7,8,9,10,11,12]) (.seq (r [o 43 (.mv (.t 6)),o 44 (.mv (.t 8)),o 45 (.bin .eql (.t 43) (.t 44)),o 46 (.mv (.t 45)),y 47 46 (.mv (.t 10)),y 48 46 (.mv (.t 12)),y 49 46 (.bin .eql (.t 47) (.t 48)),o 50 (.pick (.t 46) (.t 49) (.c (.bool false))),o 51 (.mv (.t 50)),y 52 51 (.ld (some 3) (.t 5)),y 53 51 (.ld (some 3) (.t 7)),y 54 51 (.call 15 [(.t 52),(.t 53)]),o 55 (.pick (.t 51) (.t 54) (.c (.bool false))),o 56 (.mv (.t 55)),y 57 56 (.ld (some 3) (.t 9)),y 58 56 (.ld (some 3) (.t 11)),y 59 56 (.call 15 [(.t 57),(.t 58)]),o 60 (.pick (.t 56) (.t 59) (.c (.bool false))),o 61 (.mv (.t 60)),y 62 61 (.call 8 []),o 63 (.pick (.t 61) (.t 62) (.c (.bool false))),o 4 (.mv (.t 63))] [4]) .ret))))))),[.t 4]⟩
theorem law31_WeighSeconds_ok : cFn Tryz.prog (kps [[0,3],[0,3,20],[4],[0,3,5,6],[0,5,6,7,8],[0,5,6,7,8,9,10],[5,6,7,8,9,10,11,12],[4]]) [] 4 = some law31_WeighSeconds_c := by kernel_rfl
end Go.Proofs.YtkockkfmjmheeaaGreat.F

namespace Go.Proofs.YtkockkfmjmheeaaGreat
open Go Go.Proofs Go.Proofs.YtkockkfmjmheeaaGreat.E
set_option linter.unusedSimpArgs false
set_option linter.unusedVariables false
theorem read_drawn {n : Nat} {vs : List V} (h : Typed Tryz.prog n T.drawn vs) : ∃ d : Dw, vs = dwC d ∧ d.Ok := by
 obtain ⟨m, _, h⟩ := E.typed_st (l := [T.int, T.int, T.int, T.int]) (by kernel_rfl) h
 obtain ⟨c1, r1, rfl, h1, h⟩ := E.all_cons h
 obtain ⟨c2, r2, rfl, h2, h⟩ := E.all_cons h
 obtain ⟨c3, r3, rfl, h3, h⟩ := E.all_cons h
 obtain ⟨c4, r4, rfl, h4, h⟩ := E.all_cons h
 have := E.all_nil h
 subst this
 obtain ⟨a, rfl, ha⟩ := read_int h1
 obtain ⟨b, rfl, hb⟩ := read_int h2
 obtain ⟨c, rfl, hc⟩ := read_int h3
 obtain ⟨d, rfl, hd⟩ := read_int h4
 exact ⟨⟨a, b, c, d⟩, by simp [dwC], hc, hd⟩
theorem read_run {n : Nat} {vs : List V} (h : Typed Tryz.prog n T.run vs) : ∃ r : Rn, vs = rnC r ∧ r.v.Ok ∧ r.w.Ok maxLen ∧ (∀ d ∈ r.ds, d.Ok) ∧ r.ds.length ≤ maxLen := by
 obtain ⟨m, _, h⟩ := E.typed_st (l := [T.out, T.drawns, T.ratio]) (by kernel_rfl) h
 obtain ⟨c1, r1, rfl, h1, h⟩ := E.all_cons h
 obtain ⟨c2, r2, rfl, h2, h⟩ := E.all_cons h
 obtain ⟨c3, r3, rfl, h3, h⟩ := E.all_cons h
 have := E.all_nil h
 subst this
 obtain ⟨m1, _, h1⟩ := E.typed_st (l := [T.int, T.int, T.value]) (by kernel_rfl) h1
 obtain ⟨d1, q1, rfl, g1, h1⟩ := E.all_cons h1
 obtain ⟨d2, q2, rfl, g2, h1⟩ := E.all_cons h1
 obtain ⟨d3, q3, rfl, g3, h1⟩ := E.all_cons h1
 have := E.all_nil h1
 subst this
 obtain ⟨k, rfl, _⟩ := read_int g1
 obtain ⟨j, rfl, _⟩ := read_int g2
 obtain ⟨v, rfl, hv⟩ := read_tree g3
 obtain ⟨l, rfl, hl, m2, _, h2⟩ := E.typed_sl (e := T.drawn) (by kernel_rfl) h2
 obtain ⟨ds, rfl, hd⟩ := E.list_of (f := dwC) (p := Dw.Ok) fun x hx => read_drawn (h2 x hx)
 obtain ⟨w, rfl, hw⟩ := read_raw h3
 obtain ⟨x, y, vl⟩ := v
 exact ⟨⟨k, j, x, y, vl, ds, w⟩, by simp [rnC, cells_mk, Raw.c], hv, hw, hd, by simpa using hl⟩
theorem read_runs {l : List (List V)} (h : ∃ n, Typed Tryz.prog n T.runs [.dat l]) : ∃ rs : List Rn, l = rs.map rnC ∧ rs.length ≤ maxLen ∧ ∀ r ∈ rs, r.v.Ok ∧ r.w.Ok maxLen ∧ (∀ d ∈ r.ds, d.Ok) ∧ r.ds.length ≤ maxLen := by
 obtain ⟨n, h⟩ := h
 obtain ⟨l', e, hl, m, _, h⟩ := E.typed_sl (e := T.run) (by kernel_rfl) h
 simp only [List.cons.injEq, V.dat.injEq, and_true] at e
 subst e
 obtain ⟨rs, rfl, hr⟩ := E.list_of (f := rnC) (p := fun r : Rn => r.v.Ok ∧ r.w.Ok maxLen ∧ (∀ d ∈ r.ds, d.Ok) ∧ r.ds.length ≤ maxLen) fun x hx => read_run (h x hx)
 exact ⟨rs, rfl, by simpa using hl, hr⟩
def shoR (r : Rn) : Bool := decide (r.ds.length ≤ 12) && decide (r.w.num.length ≤ 8) && decide (r.w.den.length ≤ 8) && decide (manyT r.v ≤ 100)
def shoB (l : List Rn) : Bool := decide (l.length ≤ 60) && l.all shoR
theorem law31_short {l : List Rn} (hl : l.length ≤ maxLen) (ho : ∀ r ∈ l, r.v.Ok ∧ r.w.Ok maxLen ∧ (∀ d ∈ r.ds, d.Ok) ∧ r.ds.length ≤ maxLen) : CallD Tryz.prog F.law31_short [rl l] (· = .bool (shoB l)) := by
 refine callD_by F.law31_short_ok ?_
 unfold F.law31_short_c shoB
 simp
 by_cases c : l.length ≤ 60
 case neg =>
  have c' : (60 : Int) < l.length := by omega
  have c'' : ¬ (l.length : Int) ≤ 60 := by omega
  simp [c, c', c'']
 have c' : ¬ (60 : Int) < l.length := by omega
 have c'' : (l.length : Int) ≤ 60 := by omega
 simp [c, c', c'']
 refine wm_loop (fun g : Nat => (((Sl.empty.set 9 (.int .i64 g)).set 8 (.int .i64 l.length)).set 0 (rl l), [])) (fun g => g ≤ l.length ∧ ∀ x ∈ l.take g, shoR x = true) (fun g => l.length - g) 0 (by simp) ?_ ?_
 ·exact weak_p (by repeat (first | exact sub_empty | refine sub_set (by simp) ?_)) (by repeat (first | exact sin_empty | refine sin_set (by simp) ?_))
 rintro k ⟨hk, hall⟩
 by_cases h1 : k < l.length
 ·obtain ⟨hv, hw, hd, hdl⟩ := ho _ (List.getElem_mem h1)
  have bad : shoR l[k] = false → ∃ x, x ∈ l ∧ shoR x = false := fun h => ⟨l[k], List.getElem_mem h1, h⟩
  have hM := law30_Many hv
  rw [← rnC_v] at hM
  by_cases d1 : (12 : Int) < l[k].ds.length
  ·simp [h1, rnC, d1]
   exact bad (by simp [shoR]; omega)
  by_cases d2 : (8 : Int) < l[k].w.num.length
  ·simp [h1, rnC, d1, d2]
   exact bad (by simp [shoR]; omega)
  by_cases d3 : (8 : Int) < l[k].w.den.length
  ·simp [h1, rnC, d1, d2, d3]
   exact bad (by simp [shoR]; omega)
  simp [h1, rnC, d1, d2, d3]
  refine callK_of hM (by simp) ?_
  by_cases d4 : 100 < manyT l[k].v
  ·simp [d4]
   exact bad (by simp [shoR]; omega)
  ·have d4' : manyT l[k].v ≤ 100 := by omega
   simp [d4, d4']
   rw [wrap64 (by omega) (by omega)]
   refine ⟨k + 1, ⟨h1, fun x hx => ?_⟩, by dsimp only; omega, ?_⟩
   ·rw [List.take_succ_eq_append_getElem h1] at hx
    rcases List.mem_append.1 hx with hx | hx
    ·exact hall x hx
    ·simp at hx; subst hx; simp [shoR]; omega
   ·exact weak_p (by repeat (first | exact sub_empty | refine sub_set (by simp) ?_)) (by repeat (first | exact sin_empty | refine sin_set (by simp) ?_))
 ·have hkl : k = l.length := by omega
  subst hkl
  rw [List.take_length] at hall
  simp [h1]
  exact hall
theorem secV_form {l : List Rn} {v : Tr} (hl : l.length ≤ 60) (ho : ∀ r ∈ l, r.Ok) : ∃ (q : Raw) (e : Int), secV l v = .tup [q.v, .int .i64 e] ∧ q.Ok (2 ^ 31) := by
 unfold secV
 split
 ·rename_i h
  exact ⟨rawOf (secQ l v), 0, rfl, rawOf_ok ((sec_fits hl ho (List.all_eq_true.1 h)).mono (by omega))⟩
 ·exact ⟨⟨false, [], []⟩, 1, rfl, ⟨fun _ h => by simp at h, fun _ h => by simp at h, by simp, by simp⟩⟩
theorem worV_form {l : List Rn} (hl : l.length ≤ 60) (ho : ∀ r ∈ l, r.Ok) : ∃ (q : Raw) (e : Int), worV l = .tup [q.v, .int .i64 e] ∧ q.Ok (2 ^ 31) := by
 have z : (⟨false, [], []⟩ : Raw).Ok (2 ^ 31) := ⟨fun _ h => by simp at h, fun _ h => by simp at h, by simp, by simp⟩
 unfold worV
 split
 ·rename_i h
  split
  ·exact ⟨⟨false, [], []⟩, 31, rfl, z⟩
  ·refine ⟨rawOf (wor (accR l)), 0, rfl, rawOf_ok ?_⟩
   have lA := accR_len l
   have oA : ∀ r ∈ accR l, r.Ok := fun r hr => ho r (accR_mem hr).1
   have kA : ∀ r ∈ accR l, rOk r = true := fun r hr => List.all_eq_true.1 h r (accR_mem hr).1
   have f1 := sumW_fits (l := accR l) (by omega) oA
   have f2 := sumSq_fits (l := accR l) (by omega) oA kA
   have fd := fits_divW (fits_mul f1 f1 (by omega)) f2 (by omega)
   unfold wor
   split
   ·exact fits_one.mono (by omega)
   ·exact fd.mono (by omega)
 ·exact ⟨⟨false, [], []⟩, 1, rfl, z⟩
set_option maxHeartbeats 4000000 in
theorem weighSeconds_law {l0 : List (List V)} {l1 : List V} (h0 : ∃ n, Typed Tryz.prog n T.runs [.dat l0]) (h1 : ∃ n, Typed Tryz.prog n T.value l1) : CallD Tryz.prog F.law31_WeighSeconds [.dat l0, .agg l1] (· = .bool true) := by
 obtain ⟨l, rfl, ll, hl⟩ := read_runs h0
 obtain ⟨n1, h1⟩ := h1
 obtain ⟨v, rfl, hv⟩ := read_tree h1
 refine callD_by F.law31_WeighSeconds_ok ?_
 unfold F.law31_WeighSeconds_c
 simp [setOb, List.filter_cons]
 refine callK_of (law31_short ll hl) (by simp) ?_
 cases hs : shoB l with
 | false => simp
 | true =>
 simp
 refine callK_of (law30_Many hv) (by simp [toD_cells]) ?_
 by_cases c : 100 < manyT v
 ·simp [c]
 simp only [shoB, Bool.and_eq_true, decide_eq_true_eq, List.all_eq_true] at hs
 have hl60 := hs.1
 have ho : ∀ r ∈ l, r.Ok := fun r hr => by
  obtain ⟨a, b, d, e⟩ := hl r hr
  have := hs.2 r hr
  simp [shoR] at this
  exact ⟨a, ⟨b.dn, b.dd, by omega, by omega⟩, d, by omega, by omega⟩
 obtain ⟨q1, e1, hq1, ok1⟩ := secV_form (v := v) hl60 ho
 obtain ⟨q2, e2, hq2, ok2⟩ := worV_form hl60 ho
 have S1 := weigh_Second (v := v) hl60 ho hv
 have S2 := ref31_Second (v := v) hl60 ho hv
 have W1 := weigh_Worth hl60 ho
 have W2 := ref31_Worth hl60 ho
 rw [hq1] at S1 S2
 rw [hq2] at W1 W2
 have c' : manyT v ≤ 100 := by omega
 simp [c, c', setOb, List.filter_cons]
 refine callK_of S1 (by simp [toD_cells]) ?_
 simp [setOb, List.filter_cons, raw_v]
 refine callK_of S2 (by simp [toD_cells]) ?_
 simp [setOb, List.filter_cons, raw_v]
 refine callK_of W1 (by simp) ?_
 simp [setOb, List.filter_cons, raw_v]
 refine callK_of W2 (by simp) ?_
 simp [setOb, List.filter_cons, raw_v]
 refine callK_of (ref02_Same ok1 ok1) (by simp [toD_rawc, raw_v]) ?_
 simp
 refine callK_of (ref02_Same ok2 ok2) (by simp [toD_rawc, raw_v]) ?_
 simp
 refine callK_of law31_alive (by simp) ?_
 simp
end Go.Proofs.YtkockkfmjmheeaaGreat
