import Derived.Test.YtipbefckimdkkaaGreatGS
import Derived.Test.YtipbefckimdkkaaGreatGL
import Derived.Test.YtipbefckimdkkaaGreatGC
import Derived.Test.YtipbefckimdkkaaGreatProg
import Derived.KernelRfl
import Derived.Test.YtipbefckimdkkaaGreatGD
import Derived.Test.YtipbefckimdkkaaGreatGQ
namespace Go.Proofs.YtipbefckimdkkaaGreat.F
open Go Go.Proofs Go.Proofs.YtipbefckimdkkaaGreat.E Go.Proofs.YtipbefckimdkkaaGreat.Q
abbrev ratio_Mul : Nat := 79
def ratio_Mul_c : MFn := ⟨21,(.seq (r [o 2 (.box (.t 0)),o 3 (.box (.t 1)),o 4 (.alloc zR)] [2,3,4]) (.seq (r [o 5 (.fA 0 (.t 2)),o 6 (.ld none (.t 5)),o 7 (.fA 0 (.t 3)),o 8 (.ld none (.t 7)),o 9 (.binB .neq (.t 6) (.t 8)),o 10 (.fA 1 (.t 2)),o 11 (.ld none (.t 10)),o 12 (.fA 1 (.t 3)),o 13 (.ld none (.t 12)),o 14 (.callF 110 [(.t 11),(.t 13)]),o 15 (.fA 2 (.t 2)),o 16 (.ld none (.t 15)),o 17 (.fA 2 (.t 3)),o 18 (.ld none (.t 17)),o 19 (.callF 110 [(.t 16),(.t 18)]),o 20 (.callF 112 [(.t 9),(.t 14),(.t 19)]),z (.st 3 (.t 4) (.t 20))] [4]) .ret)),[.cell 4 (some 3)]⟩
theorem ratio_Mul_ok : cFn Tryz.prog (kps [[2,3,4],[4]]) [] 79 = some ratio_Mul_c := by kernel_rfl
abbrev privacy_weight_1 : Nat := 136
def privacy_weight_1_c : MFn := ⟨9,(.seq (r [o 2 (.box (.t 0)),o 3 (.box (.t 1)),o 4 (.mv (i 0))] [2,3]) (.seq (r [o 5 (.fA 0 (.t 2)),o 6 (.ld (some 3) (.t 5)),o 7 (.ld (some 3) (.t 3)),o 8 (.call 93 [(.t 6),(.t 7)]),o 4 (.mv (.t 8))] [4]) .ret)),[.t 4]⟩
theorem privacy_weight_1_ok : cFn Tryz.prog (kps [[2,3],[4]]) [] 136 = some privacy_weight_1_c := by kernel_rfl
abbrev privacy_weight : Nat := 103
def privacy_weight_c : MFn := ⟨21,(.seq (r [o 3 (.box (.t 1)),o 4 (.alloc zR)] [0,3,4]) (.seq (r [o 8 (.mv (.t 0)),o 9 (.ld (some 3) (.t 3)),o 10 (.call 124 [(.t 8),(.t 9),(.c (.clo 136 []))]),o 7 (.mv (.t 10)),o 11 (.ext (.t 7) 0),o 12 (.ext (.t 7) 1),o 5 (.mv (.t 11)),o 6 (.mv (.t 12))] [0,4,5,6]) (.seq (.seq (r [o 13 (.mv (.t 6)),o 14 (.un .not (.t 13))] [0,4,5,14]) (.cond (.t 14) (.seq (r [o 15 (.call 88 []),z (.st 3 (.t 4) (.t 15))] [4]) .ret) .skip)) (.seq (r [o 16 (.mv (.t 0)),o 17 (.mv (.t 5)),o 18 (.ixA 6 (.t 16) (.t 17)),o 19 (.fA 3 (.t 18)),o 20 (.ld (some 3) (.t 19)),z (.st 3 (.t 4) (.t 20))] [4]) .ret)))),[.cell 4 (some 3)]⟩
theorem privacy_weight_ok : cFn Tryz.prog (kps [[0,3,4],[0,4,5,6],[0,4,5,14],[4],[4]]) [] 103 = some privacy_weight_c := by kernel_rfl
abbrev privacy_more : Nat := 66
def privacy_more_c : MFn := ⟨21,(.seq (r [o 3 (.box (.t 0)),o 5 (.box (.t 2)),o 6 (.alloc zR)] [1,3,5,6]) (.seq (r [o 8 (.fA 3 (.t 3)),o 9 (.ld (some 3) (.t 8)),o 10 (.ld (some 3) (.t 5)),o 11 (.mv (.t 1)),o 12 (.fA 0 (.t 3)),o 13 (.ld (some 3) (.t 12)),o 14 (.callF 103 [(.t 11),(.t 13)]),o 15 (.callF 79 [(.t 10),(.t 14)]),o 16 (.callF 77 [(.t 9),(.t 15)]),o 7 (.alloc zR),z (.st 3 (.t 7) (.t 16))] [6,7]) (.seq (.seq (r [o 17 (.fA 0 (.t 7)),o 18 (.ld none (.t 17))] [6,7,18]) (.cond (.t 18) (.seq (r [o 19 (.call 88 []),z (.st 3 (.t 6) (.t 19))] [6]) .ret) .skip)) (.seq (r [o 20 (.ld (some 3) (.t 7)),z (.st 3 (.t 6) (.t 20))] [6]) .ret)))),[.cell 6 (some 3)]⟩
theorem privacy_more_ok : cFn Tryz.prog (kps [[1,3,5,6],[6,7],[6,7,18],[6],[6]]) [] 66 = some privacy_more_c := by kernel_rfl
abbrev privacy_rest : Nat := 52
def privacy_rest_c : MFn := ⟨25,(.seq (r [o 5 (.box (.t 2)),o 6 (.alloc zR)] [0,1,5,6]) (.seq (r [o 10 (.call 88 []),o 7 (.alloc zR),z (.st 3 (.t 7) (.t 10))] [0,1,5,6,7]) (.seq (.seq (r [o 11 (.mv (.t 0)),o 12 (.lenS (.t 11)),o 13 (.mv (i 0))] [1,5,6,7,11,12,13]) (.block 0 (.loop (.seq (r [o 14 (.bin .lss (.t 13) (.t 12))] [1,5,6,7,11,12,13,14]) (.seq (.cond (.t 14) .skip (.exit 0)) (.seq (.block 1 (.seq (r [o 15 (.ixA 6 (.t 11) (.t 13)),o 16 (.ld (some 6) (.t 15)),o 9 (.alloc zP),z (.st 6 (.t 9) (.t 16))] [1,5,6,7,9,11,12,13]) (r [o 17 (.ld (some 3) (.t 7)),o 18 (.ld (some 6) (.t 9)),o 19 (.mv (.t 1)),o 20 (.ld (some 3) (.t 5)),o 21 (.callF 66 [(.t 18),(.t 19),(.t 20)]),o 22 (.callF 78 [(.t 17),(.t 21)]),z (.st 3 (.t 7) (.t 22))] [1,5,6,7,11,12,13]))) (r [o 23 (.bin .add (.t 13) (i 1)),o 13 (.mv (.t 23))] [1,5,6,7,11,12,13]))))))) (.seq (r [o 24 (.ld (some 3) (.t 7)),z (.st 3 (.t 6) (.t 24))] [6]) .ret)))),[.cell 6 (some 3)]⟩
theorem privacy_rest_ok : cFn Tryz.prog (kps [[0,1,5,6],[0,1,5,6,7],[1,5,6,7,11,12,13],[1,5,6,7,11,12,13,14],[1,5,6,7,9,11,12,13],[1,5,6,7,11,12,13],[1,5,6,7,11,12,13],[6]]) [] 52 = some privacy_rest_c := by kernel_rfl
abbrev privacy_rated : Nat := 51
def privacy_rated_c : MFn := ⟨11,(.seq (r [o 1 (.box (.t 0)),o 2 (.mv (.c (.bool false)))] [1]) (.seq (r [o 3 (.ld (some 3) (.t 1)),o 4 (.callF 85 [(.t 3)]),o 5 (.mv (.t 4)),y 6 5 (.ld (some 3) (.t 1)),y 7 5 (.callF 97 []),y 8 5 (.callF 74 [(.t 6),(.t 7)]),y 9 5 (.bin .geq (.t 8) (i 0)),o 10 (.pick (.t 5) (.t 9) (.c (.bool false))),o 2 (.mv (.t 10))] [2]) .ret)),[.t 2]⟩
theorem privacy_rated_ok : cFn Tryz.prog (kps [[1],[2]]) [] 51 = some privacy_rated_c := by kernel_rfl
abbrev privacy_both : Nat := 50
def privacy_both_c : MFn := ⟨11,(.seq (r [o 4 (.mv (.c (.bool false)))] [0,1]) (.seq (r [o 5 (.mv (.t 0)),o 6 (.call 87 [(.t 5)]),o 7 (.mv (.t 6)),y 8 7 (.mv (.t 1)),y 9 7 (.call 87 [(.t 8)]),o 10 (.pick (.t 7) (.t 9) (.c (.bool false))),o 4 (.mv (.t 10))] [4]) .ret)),[.t 4]⟩
theorem privacy_both_ok : cFn Tryz.prog (kps [[0,1],[4]]) [] 50 = some privacy_both_c := by kernel_rfl
abbrev privacy_Rest : Nat := 14
def privacy_Rest_c : MFn := ⟨22,(.seq (r [o 5 (.box (.t 2)),o 6 (.alloc zR),o 7 (.mv (i 0))] [0,1,5,6]) (.seq (.seq (r [o 8 (.mv (.t 0)),o 9 (.mv (.t 1)),o 10 (.call 50 [(.t 8),(.t 9)]),o 11 (.un .not (.t 10)),o 12 (.mv (.t 11)),n 13 12 (.ld (some 3) (.t 5)),n 14 12 (.call 51 [(.t 13)]),n 15 12 (.un .not (.t 14)),o 16 (.pick (.t 12) (.c (.bool true)) (.t 15))] [0,1,5,6,16]) (.cond (.t 16) (.seq (r [o 17 (.build zR []),z (.st 3 (.t 6) (.t 17)),o 7 (.mv (i 1))] [6,7]) .ret) .skip)) (.seq (r [o 18 (.mv (.t 0)),o 19 (.mv (.t 1)),o 20 (.ld (some 3) (.t 5)),o 21 (.call 52 [(.t 18),(.t 19),(.t 20)]),z (.st 3 (.t 6) (.t 21)),o 7 (.mv (i 0))] [6,7]) .ret))),[.cell 6 (some 3),.t 7]⟩
theorem privacy_Rest_ok : cFn Tryz.prog (kps [[0,1,5,6],[0,1,5,6,16],[6,7],[6,7]]) [] 14 = some privacy_Rest_c := by kernel_rfl
abbrev law36_short : Nat := 30
def law36_short_c : MFn := ⟨13,(.seq (r [o 1 (.box (.t 0)),o 2 (.mv (.c (.bool false)))] [1]) (.seq (r [o 3 (.fA 1 (.t 1)),o 4 (.ld none (.t 3)),o 5 (.lenS (.t 4)),o 6 (.bin .leq (.t 5) (i 3)),o 7 (.mv (.t 6)),y 8 7 (.fA 2 (.t 1)),y 9 7 (.ld none (.t 8)),y 10 7 (.lenS (.t 9)),y 11 7 (.bin .leq (.t 10) (i 3)),o 12 (.pick (.t 7) (.t 11) (.c (.bool false))),o 2 (.mv (.t 12))] [2]) .ret)),[.t 2]⟩
theorem law36_short_ok : cFn Tryz.prog (kps [[1],[2]]) [] 30 = some law36_short_c := by kernel_rfl
abbrev law36_rated : Nat := 13
def law36_rated_c : MFn := ⟨35,(.seq (r [o 5 (.box (.t 2)),o 6 (.mv (.c (.bool false)))] [0,1,5]) (.seq (r [o 7 (.mv (.t 0)),o 8 (.callF 19 [(.t 7)]),o 9 (.mv (.t 8)),y 10 9 (.mv (.t 1)),y 11 9 (.callF 19 [(.t 10)]),o 12 (.pick (.t 9) (.t 11) (.c (.bool false))),o 13 (.mv (.t 12)),y 14 13 (.mv (.t 0)),y 15 13 (.callF 36 [(.t 14)]),o 16 (.pick (.t 13) (.t 15) (.c (.bool false))),o 17 (.mv (.t 16)),y 18 17 (.mv (.t 1)),y 19 17 (.callF 36 [(.t 18)]),o 20 (.pick (.t 17) (.t 19) (.c (.bool false))),o 21 (.mv (.t 20)),y 22 21 (.ld (some 3) (.t 5)),y 23 21 (.callF 30 [(.t 22)]),o 24 (.pick (.t 21) (.t 23) (.c (.bool false))),o 25 (.mv (.t 24)),y 26 25 (.ld (some 3) (.t 5)),y 27 25 (.callF 49 [(.t 26)]),o 28 (.pick (.t 25) (.t 27) (.c (.bool false))),o 29 (.mv (.t 28)),y 30 29 (.ld (some 3) (.t 5)),y 31 29 (.callF 42 []),y 32 29 (.callF 16 [(.t 30),(.t 31)]),y 33 29 (.bin .geq (.t 32) (i 0)),o 34 (.pick (.t 29) (.t 33) (.c (.bool false))),o 6 (.mv (.t 34))] [6]) .ret)),[.t 6]⟩
theorem law36_rated_ok : cFn Tryz.prog (kps [[0,1,5],[6]]) [] 13 = some law36_rated_c := by kernel_rfl
end Go.Proofs.YtipbefckimdkkaaGreat.F

namespace Go.Proofs.YtipbefckimdkkaaGreat
open Go Go.Proofs Go.Proofs.YtipbefckimdkkaaGreat.E
set_option linter.unusedSimpArgs false
set_option linter.unusedVariables false
theorem posR_ge (r : Rat) : r ≤ posR r := by unfold posR; split <;> grind
theorem posR_nn (r : Rat) : 0 ≤ posR r := by unfold posR; split <;> grind
theorem posR_le {r s : Rat} (h : r ≤ s) (h0 : 0 ≤ s) : posR r ≤ s := by unfold posR; split <;> assumption
theorem mul_le_l {r a b : Rat} (hr : 0 ≤ r) (h : a ≤ b) : r * a ≤ r * b := Rat.mul_le_mul_of_nonneg_left h hr
theorem mul_nn {a b : Rat} (ha : 0 ≤ a) (hb : 0 ≤ b) : 0 ≤ a * b := Rat.mul_nonneg ha hb
def restQ (a b : List Part) (r : Rat) : Rat := sumBy (fun p => posR (p.w.q - r * wtQ b p.v)) a
theorem sumBy_nn {α : Type} {f : α → Rat} {l : List α} (h : ∀ x ∈ l, 0 ≤ f x) : 0 ≤ sumBy f l := by
 have := sumBy_le (f := fun _ : α => (0 : Rat)) (g := f) (l := l) h
 rwa [sumBy_zero] at this
theorem wtQ_nn {l : List Part} (hp : ∀ p ∈ l, 0 < p.w.q) (v : Tr) : 0 ≤ wtQ l v := by
 unfold wtQ
 split
 ·rename_i p h
  have := hp p (List.mem_of_find?_eq_some h); grind
 ·grind
theorem wtQ_mem {l : List Part} (hd : Dist l) {p : Part} (hp : p ∈ l) : wtQ l p.v = p.w.q := by rw [wtQ_at, fAt_mem hd hp]
theorem wtQ_pos {l : List Part} (hp : ∀ p ∈ l, 0 < p.w.q) {v : Tr} : wtQ l v = 0 ∨ ∃ p ∈ l, p.v = v := by
 by_cases h : ∃ p ∈ l, p.v = v
 ·exact .inr h
 ·exact .inl (wtQ_none fun p hp' e => h ⟨p, hp', e⟩)
theorem sum_le_other {a b : List Part} (da : Dist a) (db : Dist b) {g : Tr → Rat} (h0 : ∀ v, 0 ≤ g v) (hz : ∀ v, (∀ q ∈ b, q.v ≠ v) → g v = 0) : sumBy (fun p => g p.v) a ≤ sumBy (fun q => g q.v) b := by
 have h1 : sumBy (fun p : Part => g p.v) a ≤ sumBy (fun p => sumBy (fun q => if q.v = p.v then g q.v else 0) b) a := sumBy_le fun p _ => by
  rw [sum_one (f := fun q => g q.v) db]
  by_cases h : ∃ q ∈ b, q.v = p.v
  ·obtain ⟨q, hq, e⟩ := h
   rw [← e, fAt_mem (f := fun q => g q.v) db hq]; grind
  ·rw [hz p.v fun q hq e => h ⟨q, hq, e⟩, fAt_none fun q hq e => h ⟨q, hq, e⟩]; grind
 have h2 : sumBy (fun p => sumBy (fun q => if q.v = p.v then g q.v else 0) b) a ≤ sumBy (fun q => g q.v) b := by
  rw [sumBy_swap]
  refine sumBy_le fun q _ => ?_
  have e : sumBy (fun p : Part => if q.v = p.v then g q.v else 0) a = fAt (fun _ => g q.v) a q.v := by
   rw [← sum_one da]
   exact sumBy_congr fun p _ => by
    by_cases e : q.v = p.v
    ·simp [e]
    ·have e2 : ¬ p.v = q.v := fun h => e h.symm
     simp [e, e2]
  rw [e]
  unfold fAt
  have := h0 q.v
  split <;> grind
 grind
theorem ratio_Mul {x y : Raw} (hx : x.Ok (2 ^ 31)) (hy : y.Ok (2 ^ 31)) : CallD Tryz.prog F.ratio_Mul [x.v, y.v] (· = ratV (x.q * y.q)) := by
 have e := Raw.mul_q hx hy
 have n1 := val_nonneg hx.dn
 have n2 := val_nonneg hx.dd
 have n3 := val_nonneg hy.dn
 have n4 := val_nonneg hy.dd
 have l1 := hx.ln
 have l2 := hx.ld
 have l3 := hy.ln
 have l4 := hy.ld
 have m1 := Int.mul_nonneg n1 n3
 have m3 := Int.mul_nonneg n2 n4
 have d1 := digs_mul_val hx.dn hy.dn
 have d3 := digs_mul_val hx.dd hy.dd
 refine callD_by F.ratio_Mul_ok ?_
 unfold F.ratio_Mul_c
 simp [Raw.v, setOb, List.filter_cons]
 refine callFK_of (nat_Mul hx.dn hy.dn (by omega) (by omega)) (by simp) ?_
 simp
 refine callFK_of (nat_Mul hx.dd hy.dd (by omega) (by omega)) (by simp) ?_
 generalize val x.num * val y.num = A at *
 generalize val x.den * val y.den = D at *
 have vA := val_digs m1
 have vD := val_digs m3
 simp
 refine callFK_of (ratio_made (neg := !(x.neg == y.neg)) (digs_dig A) (digs_dig D) (by omega) (by omega)) (by simp) ?_
 rw [vA, vD, show (!(x.neg == y.neg)) = (x.neg != y.neg) from rfl, ← e]
 simp [ratV, Raw.v, setOb, List.filter_cons]
theorem privacy_weight_1 {p : Part} {v : Tr} (hp : p.v.Ok) (hv : v.Ok) : CallD Tryz.prog F.privacy_weight_1 [.agg (partC p), .agg v.cells] (· = .int .i64 (cmpT p.v v)) := by
 refine callD_by F.privacy_weight_1_ok ?_
 unfold F.privacy_weight_1_c
 simp [setOb, List.filter_cons]
 refine callK_of (value_Compare hp hv) (by simp [toD_cells]) ?_
 simp
theorem privacy_weight {l : List Part} {v : Tr} (hl : l.length ≤ 1000000) (ho : ∀ p ∈ l, p.v.Ok) (hv : v.Ok) (hr : Rise l) (hn : Norm l) : CallD Tryz.prog F.privacy_weight [pl l, .agg v.cells] (· = ratV (wtQ l v)) := by
 refine callD_by F.privacy_weight_ok ?_
 unfold F.privacy_weight_c
 simp [setOb, List.filter_cons]
 refine callK_rel (search_Part privacy_weight_1 hl ho hv hr) ?_ ?_
 ·simp [toD_cells]
  rw [E.toD_clo0]
 rintro r ⟨i, rfl, h⟩
 rcases h with h | h
 ·obtain ⟨hi, e1, e2⟩ := plc_some h
  have e3 : l[i].w = rawOf (wtQ l v) := by rw [e2]; exact hn _ (List.getElem_mem hi)
  simp [h, hi, setOb, List.filter_cons, ratV, raw_v, toD_rawc, e3]
 ·have h1 : ¬ plc l v = i := by omega
  have e2 : wtQ l v = 0 := wtQ_none (plc_none h)
  simp [h1, h]
  refine callK_of ratio_Zero (by simp) ?_
  simp [setOb, List.filter_cons, ratV, raw_v, toD_rawc, e2]
@[simp] theorem rch_partC (σ : Sto) (n : Nat) (p : Part) : (partC p).flatMap (rch σ n) = [] := by
  unfold partC; cases p.v with | mk k m l => simp [cells_mk]
def moreQ (p : Part) (b : List Part) (r : Rat) : Rat := posR (p.w.q - r * wtQ b p.v)
theorem prod_fits {b : List Part} (ob : ∀ p ∈ b, p.Ok 1000000) {r : Rat} (hr : Fits r 1000000) (v : Tr) : Fits (r * wtQ b v) 2000000 := (fits_mul hr (wtQ_fits ob v) (by omega)).mono (by omega)
theorem more_fits {p : Part} {b : List Part} (op : p.Ok 1000000) (ob : ∀ p ∈ b, p.Ok 1000000) {r : Rat} (hr : Fits r 1000000) : Fits (moreQ p b r) 3000001 :=
 posR_fits ((fits_sub (Raw.fits op.w (by omega)) (prod_fits ob hr p.v)).mono (by omega)) (by omega)
theorem rest_fits {a b : List Part} (oa : ∀ p ∈ a, p.Ok 1000000) (ob : ∀ p ∈ b, p.Ok 1000000) {r : Rat} (hr : Fits r 1000000) (hl : a.length ≤ 60) : Fits (restQ a b r) 180000121 := by
 refine (sumBy_fits (k := 3000001) _ fun p hp => more_fits (oa p hp) ob hr).mono ?_
 have : a.length * (3000001 + 1) ≤ 60 * (3000001 + 1) := Nat.mul_le_mul_right _ hl
 omega
theorem privacy_more {p : Part} {b : List Part} {x : Raw} (op : p.Ok 1000000) (gb : Good b) (hx : x.Ok 1000000) : CallD Tryz.prog F.privacy_more [.agg (partC p), pl b, x.v] (· = ratV (moreQ p b x.q)) := by
 have hl := gb.le
 have hx31 : x.Ok (2 ^ 31) := hx.mono (by omega)
 have fx := Raw.fits hx (by omega)
 have fw := wtQ_fits gb.ok p.v
 have fm := prod_fits gb.ok fx p.v
 refine callD_by F.privacy_more_ok ?_
 unfold F.privacy_more_c
 simp [setOb, List.filter_cons, raw_v]
 refine callFK_of (privacy_weight (by omega) (fun p hp => (gb.ok p hp).v) op.v gb.rise gb.norm) (by simp [toD_cells]) ?_
 simp [ratV, raw_v]
 refine callFK_of (ratio_Mul hx31 (rawOf_ok (fw.mono (by omega)))) (by simp [toD_rawc, raw_v]) ?_
 rw [rawOf_q]
 simp [ratV, raw_v]
 refine callFK_of (ratio_Sub (op.w.mono (by omega)) (rawOf_ok (fm.mono (by omega)))) (by simp [toD_rawc, raw_v]) ?_
 rw [rawOf_q]
 simp [ratV, raw_v, setOb, List.filter_cons, rawc_0]
 have en : (rawOf (p.w.q - x.q * wtQ b p.v)).neg = decide (p.w.q - x.q * wtQ b p.v < 0) := rfl
 by_cases hneg : p.w.q - x.q * wtQ b p.v < 0
 ·have e : moreQ p b x.q = 0 := if_pos hneg
  simp [en, hneg, Raw.c]
  refine callK_of ratio_Zero (by simp) ?_
  simp [setOb, List.filter_cons, ratV, raw_v, toD_rawc, e]
  rfl
 ·have e : moreQ p b x.q = p.w.q - x.q * wtQ b p.v := if_neg hneg
  simp [en, hneg, Raw.c, setOb, List.filter_cons, ratV, raw_v, toD_rawc, e]
theorem privacy_rest {a b : List Part} {x : Raw} (ga : Good a) (gb : Good b) (hx : x.Ok 1000000) : CallD Tryz.prog F.privacy_rest [pl a, pl b, x.v] (· = ratV (restQ a b x.q)) := by
 have hl := ga.le
 have fx := Raw.fits hx (by omega)
 refine callD_by F.privacy_rest_ok ?_
 unfold F.privacy_rest_c
 simp [setOb, List.filter_cons, raw_v]
 refine callK_of ratio_Zero (by simp) ?_
 simp [setOb, List.filter_cons, ratV, raw_v]
 refine wm_loop (fun g : Nat => (((((((Sl.empty.set 13 (.int .i64 g)).set 12 (.int .i64 a.length)).set 11 (pl a)).set 7 (.ptr 2 0 0)).set 6 (.ptr 1 0 0)).set 5 (.ptr 0 0 0)).set 1 (pl b),
  [(0, ⟨.own, 3, [x.c]⟩), (1, ⟨.own, 3, [[.bool false, .nils, .nils]]⟩), (2, ⟨.own, 3, [(rawOf (restQ (a.take g) b x.q)).c]⟩)]))
  (fun g => g ≤ a.length) (fun g => a.length - g) 0 (by omega) ?_ ?_
 ·refine weak_obs ?_ (by simp [restQ, sumBy]) (by repeat (first | exact sin_empty | refine sin_set (by simp) ?_)) ?_
  ·repeat (first | exact sub_empty | refine sub_set (by simp) ?_)
  ·simp; exact ⟨fun y hy => rawc_within _ y hy, fun y hy => rawc_within _ y hy⟩
 intro i hi
 by_cases h1 : i < a.length
 ·have okA := ga.ok _ (List.getElem_mem h1)
  have hst : restQ (a.take (i + 1)) b x.q = restQ (a.take i) b x.q + moreQ a[i] b x.q := sumBy_take (f := fun p => moreQ p b x.q) h1
  have hacc : Fits (restQ (a.take i) b x.q) 180000121 := rest_fits (fun p hp => ga.ok p (List.mem_of_mem_take hp)) gb.ok fx (by rw [List.length_take]; omega)
  have tk : List.take 6 (partC a[i]) = partC a[i] := by simp
  simp [h1, setOb, List.filter_cons]
  refine callFK_of (privacy_more okA gb hx) (by simp [toD_rawc, toD_partC, raw_v]) ?_
  simp [ratV, raw_v]
  refine callFK_of (ratio_Add (rawOf_ok (hacc.mono (by omega))) (rawOf_ok ((more_fits okA gb.ok fx).mono (by omega)))) (by simp [toD_rawc, raw_v]) ?_
  rw [rawOf_q, rawOf_q, ← hst]
  simp [ratV, raw_v, setOb, List.filter_cons]
  rw [wrap64 (by omega) (by omega)]
  refine ⟨i + 1, h1, by dsimp only; omega, ?_⟩
  refine weak_obs ?_ (by simp) (by repeat (first | exact sin_empty | refine sin_set (by simp) ?_)) ?_
  ·repeat (first | exact sub_empty | refine sub_set (by simp) ?_)
  ·simp; exact ⟨fun y hy => rawc_within _ y hy, fun y hy => rawc_within _ y hy⟩
 ·have hil : i = a.length := by omega
  subst hil
  simp [h1, setOb, List.filter_cons, toD_rawc, ratV, raw_v]
def ratedB (x : Raw) : Bool := x.right && decide (1 ≤ x.q)
theorem one_ok : (rawOf 1).Ok (2 ^ 31) := rawOf_ok (fits_one.mono (by omega))
theorem cmpR_nn {a b : Rat} : 0 ≤ cmpR a b ↔ b ≤ a := by
 unfold cmpR
 split
 ·rename_i h
  exact ⟨fun h' => by omega, fun h' => by grind⟩
 ·rename_i h
  exact ⟨fun _ => Rat.not_lt.1 h, fun _ => by split <;> omega⟩
theorem privacy_rated {x : Raw} (hx : x.Ok (2 ^ 31)) : CallD Tryz.prog F.privacy_rated [x.v] (· = .bool (ratedB x)) := by
 have hx33 : x.Ok (2 ^ 33) := hx.mono (by omega)
 refine callD_by F.privacy_rated_ok ?_
 unfold F.privacy_rated_c ratedB
 simp [setOb, List.filter_cons, raw_v]
 refine callFK_of (ratio_Right hx33) (by simp [toD_rawc, raw_v]) ?_
 cases hr : x.right with
 | false => simp
 | true =>
 simp
 refine callFK_of ratio_One (by simp) ?_
 simp [ratV, raw_v]
 refine callFK_of (ratio_Compare hx33 (one_ok.mono (by omega))) (by simp [toD_rawc, raw_v]) ?_
 rw [rawOf_q]
 simp [cmpR_nn]
theorem privacy_both {a b : List Part} (la : a.length ≤ 1000000) (lb : b.length ≤ 1000000) (oa : ∀ p ∈ a, p.Ok 1000000) (ob : ∀ p ∈ b, p.Ok 1000000) : CallD Tryz.prog F.privacy_both [pl a, pl b] (· = .bool (rightP a && rightP b)) := by
 refine callD_by F.privacy_both_ok ?_
 unfold F.privacy_both_c
 simp
 refine callK_of (couple_Right (by omega) oa) (by simp) ?_
 cases hra : rightP a with
 | false => simp
 | true =>
 simp
 refine callK_of (couple_Right (by omega) ob) (by simp) ?_
 simp
abbrev zeroA : V := .agg [.bool false, .dat [], .dat []]
def restV (a b : List Part) (x : Raw) : V := if (rightP a && rightP b) && ratedB x then .tup [ratV (restQ a b x.q), .int .i64 0] else .tup [zeroA, .int .i64 1]
theorem restV_ok {a b : List Part} {x : Raw} (ha : rightP a = true) (hb : rightP b = true) (hx : ratedB x = true) : restV a b x = .tup [ratV (restQ a b x.q), .int .i64 0] := by unfold restV; rw [ha, hb, hx]; rfl
theorem privacy_Rest {a b : List Part} {x : Raw} (la : a.length ≤ 1000000) (lb : b.length ≤ 1000000) (oa : ∀ p ∈ a, p.Ok 1000000) (ob : ∀ p ∈ b, p.Ok 1000000) (hx : x.Ok 1000000) : CallD Tryz.prog F.privacy_Rest [pl a, pl b, x.v] (· = restV a b x) := by
 refine callD_by F.privacy_Rest_ok ?_
 unfold F.privacy_Rest_c restV
 simp [setOb, List.filter_cons, raw_v]
 refine callK_of (privacy_both la lb oa ob) (by simp) ?_
 cases hra : rightP a with
 | false => simp [setOb, List.filter_cons]
 | true =>
 cases hrb : rightP b with
 | false => simp [setOb, List.filter_cons]
 | true =>
 simp
 refine callK_of (privacy_rated (hx.mono (by omega))) (by simp [toD_rawc, raw_v]) ?_
 cases hr : ratedB x with
 | false => simp [setOb, List.filter_cons]
 | true =>
 simp
 refine callK_of (privacy_rest (good_of hra oa) (good_of hrb ob) hx) (by simp [toD_rawc, raw_v]) ?_
 simp [setOb, List.filter_cons, ratV, raw_v, toD_rawc]
def shortB (x : Raw) : Bool := decide (x.num.length ≤ 3) && decide (x.den.length ≤ 3)
theorem short_ok {x : Raw} (hx : x.Ok maxLen) (h : shortB x = true) : x.Ok 3 := by
 simp [shortB] at h; exact ⟨hx.dn, hx.dd, h.1, h.2⟩
theorem law36_short {x : Raw} : CallD Tryz.prog F.law36_short [x.v] (· = .bool (shortB x)) := by
 refine callD_by F.law36_short_ok ?_
 unfold F.law36_short_c shortB
 simp [setOb, List.filter_cons, Raw.v]
 by_cases h : (x.num.length : Int) ≤ 3
 ·have h' : x.num.length ≤ 3 := by omega
  simp [h, h']
  by_cases k : (x.den.length : Int) ≤ 3
  ·have k' : x.den.length ≤ 3 := by omega
   simp [k, k']
  ·have k' : ¬ x.den.length ≤ 3 := by omega
   simp [k, k']
 ·have h' : ¬ x.num.length ≤ 3 := by omega
  simp [h, h']
def ratedP (a b : List Part) (x : Raw) : Bool := fewP a && fewP b && rightP a && rightP b && shortB x && ratedB x
theorem law36_rated {a b : List Part} {x : Raw} (la : a.length ≤ maxLen) (lb : b.length ≤ maxLen) (oa : ∀ p ∈ a, p.Ok maxLen) (ob : ∀ p ∈ b, p.Ok maxLen) (hx : x.Ok maxLen) : CallD Tryz.prog F.law36_rated [pl a, pl b, x.v] (· = .bool (ratedP a b x)) := by
 refine callD_by F.law36_rated_ok ?_
 unfold F.law36_rated_c ratedP
 simp [setOb, List.filter_cons, raw_v]
 refine callFK_of (law35_Few la oa) (by simp) ?_
 cases fa : fewP a with
 | false => simp
 | true =>
 simp
 refine callFK_of (law35_Few lb ob) (by simp) ?_
 cases fb : fewP b with
 | false => simp
 | true =>
 obtain ⟨na, oa3⟩ := fewP_ok fa oa
 obtain ⟨nb, ob3⟩ := fewP_ok fb ob
 simp
 refine callFK_of (ref35_Right (by omega) fun p h => (oa3 p h).mono (by omega)) (by simp) ?_
 cases ra : rightP a with
 | false => simp
 | true =>
 simp
 refine callFK_of (ref35_Right (by omega) fun p h => (ob3 p h).mono (by omega)) (by simp) ?_
 cases rb : rightP b with
 | false => simp
 | true =>
 simp
 refine callFK_of (law36_short (x := x)) (by simp [toD_rawc, raw_v]) ?_
 cases hs : shortB x with
 | false => simp
 | true =>
 have hx3 := short_ok hx hs
 simp
 refine callFK_of (ref02_Right (hx3.mono (by omega))) (by simp [toD_rawc, raw_v]) ?_
 unfold ratedB
 cases hr : x.right with
 | false => simp
 | true =>
 simp
 refine callFK_of ref02_One (by simp) ?_
 simp [ratV, raw_v]
 refine callFK_of (ref02_Compare (hx3.mono (by omega)) one_ok) (by simp [toD_rawc, raw_v]) ?_
 rw [rawOf_q]
 simp [cmpR_nn]
structure Rated (a b : List Part) (x : Raw) : Prop where
 na : a.length ≤ 10
 nb : b.length ≤ 10
 oa : ∀ p ∈ a, p.Ok 3
 ob : ∀ p ∈ b, p.Ok 3
 ra : rightP a = true
 rb : rightP b = true
 x3 : x.Ok 3
 rx : ratedB x = true
theorem rated_of {a b : List Part} {x : Raw} (oa : ∀ p ∈ a, p.Ok maxLen) (ob : ∀ p ∈ b, p.Ok maxLen) (hx : x.Ok maxLen) (h : ratedP a b x = true) : Rated a b x := by
 simp only [ratedP, Bool.and_eq_true] at h
 obtain ⟨⟨⟨⟨⟨h1, h2⟩, h3⟩, h4⟩, h5⟩, h6⟩ := h
 obtain ⟨na, oa3⟩ := fewP_ok h1 oa
 obtain ⟨nb, ob3⟩ := fewP_ok h2 ob
 exact ⟨na, nb, oa3, ob3, h3, h4, short_ok hx h5, h6⟩
theorem Rated.one {a b : List Part} {x : Raw} (h : Rated a b x) : 1 ≤ x.q := by
 have := h.rx; simp only [ratedB, Bool.and_eq_true, decide_eq_true_eq] at this; exact this.2
theorem Rated.ga {a b : List Part} {x : Raw} (h : Rated a b x) : Good a := good_of h.ra fun p hp => (h.oa p hp).mono (by omega)
theorem Rated.gb {a b : List Part} {x : Raw} (h : Rated a b x) : Good b := good_of h.rb fun p hp => (h.ob p hp).mono (by omega)
end Go.Proofs.YtipbefckimdkkaaGreat
