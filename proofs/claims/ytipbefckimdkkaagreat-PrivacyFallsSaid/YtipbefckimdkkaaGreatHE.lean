import Derived.Test.YtipbefckimdkkaaGreatHD
import Derived.Test.YtipbefckimdkkaaGreatHC
namespace Go.Proofs.YtipbefckimdkkaaGreat.F
open Go Go.Proofs Go.Proofs.YtipbefckimdkkaaGreat.E Go.Proofs.YtipbefckimdkkaaGreat.Q
abbrev ref36_more : Nat := 86
def ref36_more_c : MFn := ⟨24,(.seq (r [o 6 (.box (.t 2)),o 7 (.box (.t 3)),o 8 (.alloc zR)] [0,1,6,7,8]) (.seq (r [o 10 (.mv (.t 0)),o 11 (.ld (some 3) (.t 6)),o 12 (.callF 29 [(.t 10),(.t 11)]),o 13 (.ld (some 3) (.t 7)),o 14 (.mv (.t 1)),o 15 (.ld (some 3) (.t 6)),o 16 (.callF 29 [(.t 14),(.t 15)]),o 17 (.callF 15 [(.t 13),(.t 16)]),o 18 (.callF 28 [(.t 12),(.t 17)]),o 9 (.alloc zR),z (.st 3 (.t 9) (.t 18))] [8,9]) (.seq (.seq (r [o 19 (.ld (some 3) (.t 9)),o 20 (.call 44 [(.t 19)]),o 21 (.bin .lss (.t 20) (i 0))] [8,9,21]) (.cond (.t 21) (.seq (r [o 22 (.call 27 []),z (.st 3 (.t 8) (.t 22))] [8]) .ret) .skip)) (.seq (r [o 23 (.ld (some 3) (.t 9)),z (.st 3 (.t 8) (.t 23))] [8]) .ret)))),[.cell 8 (some 3)]⟩
theorem ref36_more_ok : cFn Tryz.prog (kps [[0,1,6,7,8],[8,9],[8,9,21],[8],[8]]) [] 86 = some ref36_more_c := by kernel_rfl
abbrev ref36_rest : Nat := 65
def ref36_rest_c : MFn := ⟨28,(.seq (r [o 5 (.box (.t 2)),o 6 (.alloc zR)] [0,1,5,6]) (.seq (r [o 10 (.call 27 []),o 7 (.alloc zR),z (.st 3 (.t 7) (.t 10))] [0,1,5,6,7]) (.seq (.seq (r [o 11 (.mv (.t 0)),o 12 (.mv (.t 1)),o 13 (.call 26 [(.t 11),(.t 12)]),o 14 (.lenS (.t 13)),o 15 (.mv (i 0))] [0,1,5,6,7,13,14,15]) (.block 0 (.loop (.seq (r [o 16 (.bin .lss (.t 15) (.t 14))] [0,1,5,6,7,13,14,15,16]) (.seq (.cond (.t 16) .skip (.exit 0)) (.seq (.block 1 (.seq (r [o 17 (.ixA 3 (.t 13) (.t 15)),o 18 (.ld (some 3) (.t 17)),o 9 (.alloc zV),z (.st 3 (.t 9) (.t 18))] [0,1,5,6,7,9,13,14,15]) (r [o 19 (.ld (some 3) (.t 7)),o 20 (.mv (.t 0)),o 21 (.mv (.t 1)),o 22 (.ld (some 3) (.t 9)),o 23 (.ld (some 3) (.t 5)),o 24 (.callF 86 [(.t 20),(.t 21),(.t 22),(.t 23)]),o 25 (.callF 17 [(.t 19),(.t 24)]),z (.st 3 (.t 7) (.t 25))] [0,1,5,6,7,13,14,15]))) (r [o 26 (.bin .add (.t 15) (i 1)),o 15 (.mv (.t 26))] [0,1,5,6,7,13,14,15]))))))) (.seq (r [o 27 (.ld (some 3) (.t 7)),z (.st 3 (.t 6) (.t 27))] [6]) .ret)))),[.cell 6 (some 3)]⟩
theorem ref36_rest_ok : cFn Tryz.prog (kps [[0,1,5,6],[0,1,5,6,7],[0,1,5,6,7,13,14,15],[0,1,5,6,7,13,14,15,16],[0,1,5,6,7,9,13,14,15],[0,1,5,6,7,13,14,15],[0,1,5,6,7,13,14,15],[6]]) [] 65 = some ref36_rest_c := by kernel_rfl
abbrev ref36_right : Nat := 63
def ref36_right_c : MFn := ⟨11,(.seq (r [o 4 (.mv (.c (.bool false)))] [0,1]) (.seq (r [o 5 (.mv (.t 0)),o 6 (.call 36 [(.t 5)]),o 7 (.mv (.t 6)),y 8 7 (.mv (.t 1)),y 9 7 (.call 36 [(.t 8)]),o 10 (.pick (.t 7) (.t 9) (.c (.bool false))),o 4 (.mv (.t 10))] [4]) .ret)),[.t 4]⟩
theorem ref36_right_ok : cFn Tryz.prog (kps [[0,1],[4]]) [] 63 = some ref36_right_c := by kernel_rfl
end Go.Proofs.YtipbefckimdkkaaGreat.F

namespace Go.Proofs.YtipbefckimdkkaaGreat
open Go Go.Proofs Go.Proofs.YtipbefckimdkkaaGreat.E
set_option linter.unusedSimpArgs false
set_option linter.unusedVariables false
def moreV (a b : List Part) (r : Rat) (v : Tr) : Rat := posR (wtQ a v - r * wtQ b v)
theorem moreV_fits {a b : List Part} (oa : ∀ p ∈ a, p.Ok 1000000) (ob : ∀ p ∈ b, p.Ok 1000000) {r : Rat} (hr : Fits r 1000000) (v : Tr) : Fits (moreV a b r v) 3000001 :=
 posR_fits ((fits_sub (wtQ_fits oa v) (prod_fits ob hr v)).mono (by omega)) (by omega)
theorem ref36_more {a b : List Part} {v : Tr} {x : Raw} (ga : Good a) (gb : Good b) (hv : v.Ok) (hx : x.Ok 1000000) : CallD Tryz.prog F.ref36_more [pl a, pl b, .agg v.cells, x.v] (· = ratV (moreV a b x.q v)) := by
 have la := ga.le
 have lb := gb.le
 have hx31 : x.Ok (2 ^ 31) := hx.mono (by omega)
 have fx := Raw.fits hx (by omega)
 have fa' : (rawOf (wtQ a v)).Ok (2 ^ 31) := rawOf_ok ((wtQ_fits ga.ok v).mono (by omega))
 have fb' : (rawOf (wtQ b v)).Ok (2 ^ 31) := rawOf_ok ((wtQ_fits gb.ok v).mono (by omega))
 have fp' : (rawOf (x.q * wtQ b v)).Ok (2 ^ 31) := rawOf_ok ((prod_fits gb.ok fx v).mono (by omega))
 have fd : Fits (wtQ a v - x.q * wtQ b v) 3000001 := (fits_sub (wtQ_fits ga.ok v) (prod_fits gb.ok fx v)).mono (by omega)
 refine callD_by F.ref36_more_ok ?_
 unfold F.ref36_more_c
 simp [setOb, List.filter_cons, raw_v]
 refine callFK_of (ref35_Weight (by omega) ga.ok ga.norm hv) (by simp [toD_cells]) ?_
 simp [ratV, raw_v]
 refine callFK_of (ref35_Weight (by omega) gb.ok gb.norm hv) (by simp [toD_cells]) ?_
 simp [ratV, raw_v]
 refine callFK_of (ref02_Mul hx31 fb') (by simp [toD_rawc, raw_v]) ?_
 simp [ratV, raw_v, rawOf_q]
 refine callFK_of (ref02_Sub fa' fp') (by simp [toD_rawc, raw_v]) ?_
 simp [ratV, raw_v, rawOf_q, setOb, List.filter_cons]
 refine callK_of (ref02_Sign (rawOf_ok (fd.mono (by omega)))) (by simp [toD_rawc, raw_v]) ?_
 rw [rawOf_q]
 by_cases hn : wtQ a v - x.q * wtQ b v < 0
 ·have hs : sgnR (wtQ a v - x.q * wtQ b v) < 0 := by unfold sgnR; rw [cmpR_lt]; exact hn
  have e : moreV a b x.q v = 0 := if_pos hn
  simp [hs]
  refine callK_of ref02_Zero (by simp) ?_
  simp [setOb, List.filter_cons, ratV, raw_v, toD_rawc, e]
 ·have hs : ¬ sgnR (wtQ a v - x.q * wtQ b v) < 0 := by unfold sgnR; rw [cmpR_lt]; exact hn
  have e : moreV a b x.q v = wtQ a v - x.q * wtQ b v := if_neg hn
  simp [hs, setOb, List.filter_cons, ratV, raw_v, toD_rawc, e]
theorem ref36_rest {a b : List Part} {x : Raw} (ga : Good a) (gb : Good b) (hx : x.Ok 1000000) (x0 : 0 ≤ x.q) : CallD Tryz.prog F.ref36_rest [pl a, pl b, x.v] (· = ratV (restQ a b x.q)) := by
 have la := ga.le
 have lb := gb.le
 have lv := vals_len a b
 have fx := Raw.fits hx (by omega)
 refine callD_by F.ref36_rest_ok ?_
 unfold F.ref36_rest_c
 simp [setOb, List.filter_cons, raw_v]
 refine callK_of ref02_Zero (by simp) ?_
 simp [setOb, List.filter_cons, ratV, raw_v]
 refine callK_of (ref35_Values (by omega) (by omega) ga gb.ok) (by simp) ?_
 simp
 refine wm_loop (fun g : Nat => ((((((((Sl.empty.set 15 (.int .i64 g)).set 14 (.int .i64 (valsT a b).length)).set 13 (tl (valsT a b))).set 7 (.ptr 2 0 0)).set 6 (.ptr 1 0 0)).set 5 (.ptr 0 0 0)).set 1 (pl b)).set 0 (pl a),
  [(0, ⟨.own, 3, [x.c]⟩), (1, ⟨.own, 3, [[.bool false, .nils, .nils]]⟩), (2, ⟨.own, 3, [(rawOf (sumBy (moreV a b x.q) ((valsT a b).take g))).c]⟩)]))
  (fun g => g ≤ (valsT a b).length) (fun g => (valsT a b).length - g) 0 (by omega) ?_ ?_
 ·refine weak_obs ?_ (by simp [sumBy]) (by repeat (first | exact sin_empty | refine sin_set (by simp) ?_)) ?_
  ·repeat (first | exact sub_empty | refine sub_set (by simp) ?_)
  ·simp; exact ⟨fun y hy => rawc_within _ y hy, fun y hy => rawc_within _ y hy⟩
 intro i hi
 by_cases h1 : i < (valsT a b).length
 ·generalize hval : (valsT a b)[i] = v
  have okv : v.Ok := by rw [← hval]; exact vals_ok ga.ok gb.ok _ (List.getElem_mem h1)
  have hst := sumBy_take (f := moreV a b x.q) h1
  rw [hval] at hst
  have hacc : Fits (sumBy (moreV a b x.q) ((valsT a b).take i)) (2 ^ 30) := (sumBy_fits (k := 3000001) _ fun v _ => moreV_fits ga.ok gb.ok fx v).mono (by
   have h1 : ((valsT a b).take i).length ≤ 200 := by rw [List.length_take]; omega
   have : ((valsT a b).take i).length * (3000001 + 1) ≤ 200 * 3000002 := Nat.mul_le_mul_right _ h1
   omega)
  simp [h1, setOb, List.filter_cons, hval]
  refine callFK_of (ref36_more ga gb okv hx) (by simp [toD_rawc, toD_cells, raw_v]) ?_
  simp [ratV, raw_v]
  refine callFK_of (ref02_Add (rawOf_ok (hacc.mono (by omega))) (rawOf_ok ((moreV_fits ga.ok gb.ok fx v).mono (by omega)))) (by simp [toD_rawc, raw_v]) ?_
  rw [rawOf_q, rawOf_q, ← hst]
  simp [ratV, raw_v, setOb, List.filter_cons]
  rw [wrap64 (by omega) (by omega)]
  refine ⟨i + 1, h1, by dsimp only; omega, ?_⟩
  refine weak_obs ?_ (by simp) (by repeat (first | exact sin_empty | refine sin_set (by simp) ?_)) ?_
  ·repeat (first | exact sub_empty | refine sub_set (by simp) ?_)
  ·simp; exact ⟨fun y hy => rawc_within _ y hy, fun y hy => rawc_within _ y hy⟩
 ·have hil : i = (valsT a b).length := by omega
  subst hil
  have e : sumBy (moreV a b x.q) (valsT a b) = restQ a b x.q := rest_vals ga gb x0
  rw [List.take_length, e]
  simp [setOb, List.filter_cons, toD_rawc, ratV, raw_v]
theorem ref36_right {a b : List Part} (la : a.length ≤ 1000) (lb : b.length ≤ 1000) (oa : ∀ p ∈ a, p.Ok 1000000) (ob : ∀ p ∈ b, p.Ok 1000000) : CallD Tryz.prog F.ref36_right [pl a, pl b] (· = .bool (rightP a && rightP b)) := by
 refine callD_by F.ref36_right_ok ?_
 unfold F.ref36_right_c
 simp
 refine callK_of (ref35_Right (by omega) oa) (by simp) ?_
 cases hra : rightP a with
 | false => simp
 | true =>
 simp
 refine callK_of (ref35_Right (by omega) ob) (by simp) ?_
 simp
end Go.Proofs.YtipbefckimdkkaaGreat

namespace Go.Proofs.YtipbefckimdkkaaGreat
open Go Go.Proofs Go.Proofs.YtipbefckimdkkaaGreat.E
set_option linter.unusedSimpArgs false
set_option linter.unusedVariables false
end Go.Proofs.YtipbefckimdkkaaGreat
