import Derived.Test.YtipbefckimdkkaaGreatHA
import Derived.Test.YtipbefckimdkkaaGreatGC
import Derived.Test.YtipbefckimdkkaaGreatProg
import Derived.KernelRfl
namespace Go.Proofs.YtipbefckimdkkaaGreat.F
open Go Go.Proofs Go.Proofs.YtipbefckimdkkaaGreat.E Go.Proofs.YtipbefckimdkkaaGreat.Q
abbrev own_Ratio : Nat := 75
def own_Ratio_c : MFn := ⟨12,(.seq (r [o 1 (.box (.t 0)),o 2 (.alloc zR)] [1,2]) (.seq (r [o 3 (.fA 0 (.t 1)),o 4 (.ld none (.t 3)),o 5 (.fA 1 (.t 1)),o 6 (.ld none (.t 5)),o 7 (.callF 111 [(.t 6)]),o 8 (.fA 2 (.t 1)),o 9 (.ld none (.t 8)),o 10 (.callF 111 [(.t 9)]),o 11 (.build zR [(0,1,(.t 4)),(1,1,(.t 7)),(2,1,(.t 10))]),z (.st 3 (.t 2) (.t 11))] [2]) .ret)),[.cell 2 (some 3)]⟩
theorem own_Ratio_ok : cFn Tryz.prog (kps [[1,2],[2]]) [] 75 = some own_Ratio_c := by kernel_rfl
abbrev privacy_At_1 : Nat := 73
def privacy_At_1_c : MFn := ⟨9,(.seq (r [o 2 (.box (.t 0)),o 3 (.box (.t 1)),o 4 (.mv (i 0))] [2,3]) (.seq (r [o 5 (.fA 0 (.t 2)),o 6 (.ld (some 3) (.t 5)),o 7 (.ld (some 3) (.t 3)),o 8 (.call 74 [(.t 6),(.t 7)]),o 4 (.mv (.t 8))] [4]) .ret)),[.t 4]⟩
theorem privacy_At_1_ok : cFn Tryz.prog (kps [[2,3],[4]]) [] 73 = some privacy_At_1_c := by kernel_rfl
abbrev slices_BinarySearchFunc_Corner_Corner_Ratio : Nat := 72
def slices_BinarySearchFunc_Corner_Corner_Ratio_c : MFn := ⟨49,(.seq (r [o 4 (.box (.t 1)),o 6 (.mv (i 0)),o 7 (.mv (.c (.bool false)))] [0,2,4]) (.seq (r [o 12 (.mv (.t 0)),o 13 (.lenS (.t 12)),o 8 (.mv (.t 13))] [0,2,4,8]) (.seq (r [o 14 (.mv (.t 8)),o 9 (.mv (i 0)),o 10 (.mv (.t 14))] [0,2,4,8,9,10]) (.seq (.block 0 (.loop (.seq (.seq (r [o 15 (.mv (.t 9)),o 16 (.mv (.t 10)),o 17 (.bin .lss (.t 15) (.t 16))] [0,2,4,8,9,10,17]) (.cond (.t 17) .skip (.exit 0))) (.block 1 (.seq (r [o 18 (.mv (.t 9)),o 19 (.mv (.t 10)),o 20 (.bin .add (.t 18) (.t 19)),o 21 (.cvt .u64 (.t 20)),o 22 (.bin .shr (.t 21) (.c (.int .u64 1))),o 23 (.cvt .i64 (.t 22)),o 11 (.mv (.t 23))] [0,2,4,8,9,10,11]) (.seq (r [o 24 (.mv (.t 2)),o 25 (.mv (.t 0)),o 26 (.mv (.t 11)),o 27 (.ixA 6 (.t 25) (.t 26)),o 28 (.ld (some 6) (.t 27)),o 29 (.ld (some 3) (.t 4)),o 30 (.callVF (.t 24) [(.t 28),(.t 29)]),o 31 (.bin .lss (.t 30) (i 0))] [0,2,4,8,9,10,11,31]) (.cond (.t 31) (r [o 32 (.mv (.t 11)),o 33 (.bin .add (.t 32) (i 1)),o 9 (.mv (.t 33))] [0,2,4,8,9,10]) (r [o 34 (.mv (.t 11)),o 10 (.mv (.t 34))] [0,2,4,8,9,10])))))))) (.seq (r [o 35 (.mv (.t 9)),o 36 (.mv (.t 9)),o 37 (.mv (.t 8)),o 38 (.bin .lss (.t 36) (.t 37)),o 39 (.mv (.t 38)),y 40 39 (.mv (.t 2)),y 41 39 (.mv (.t 0)),y 42 39 (.mv (.t 9)),y 43 39 (.ixA 6 (.t 41) (.t 42)),y 44 39 (.ld (some 6) (.t 43)),y 45 39 (.ld (some 3) (.t 4)),y 46 39 (.callVF (.t 40) [(.t 44),(.t 45)]),y 47 39 (.bin .eql (.t 46) (i 0)),o 48 (.pick (.t 39) (.t 47) (.c (.bool false))),o 6 (.mv (.t 35)),o 7 (.mv (.t 48))] [6,7]) .ret))))),[.t 6,.t 7]⟩
theorem slices_BinarySearchFunc_Corner_Corner_Ratio_ok : cFn Tryz.prog (kps [[0,2,4],[0,2,4,8],[0,2,4,8,9,10],[0,2,4,8,9,10,17],[0,2,4,8,9,10,11],[0,2,4,8,9,10,11,31],[0,2,4,8,9,10],[0,2,4,8,9,10],[6,7]]) [] 72 = some slices_BinarySearchFunc_Corner_Corner_Ratio_c := by kernel_rfl
abbrev privacy_corners : Nat := 71
def privacy_corners_c : MFn := ⟨50,(.seq (r [o 2 (.mv (.c (.bool false)))] [0]) (.seq (.seq (r [o 5 (.mv (.t 0)),o 6 (.lenS (.t 5)),o 7 (.mv (i 0))] [0,5,6,7]) (.block 0 (.loop (.seq (r [o 8 (.bin .lss (.t 7) (.t 6))] [0,5,6,7,8]) (.seq (.cond (.t 8) .skip (.exit 0)) (.seq (.block 1 (.seq (r [o 9 (.mv (.t 7)),o 10 (.ixA 6 (.t 5) (.t 7)),o 11 (.ld (some 6) (.t 10)),o 4 (.alloc [.bool false,.nils,.nils,.bool false,.nils,.nils]),o 3 (.mv (.t 9)),z (.st 6 (.t 4) (.t 11))] [0,3,4,5,6,7]) (.seq (r [o 12 (.fA 0 (.t 4)),o 13 (.ld (some 3) (.t 12)),o 14 (.callF 51 [(.t 13)]),o 15 (.un .not (.t 14)),o 16 (.mv (.t 15)),n 17 16 (.fA 3 (.t 4)),n 18 16 (.ld (some 3) (.t 17)),n 19 16 (.callF 85 [(.t 18)]),n 20 16 (.un .not (.t 19)),o 21 (.pick (.t 16) (.c (.bool true)) (.t 20)),o 22 (.mv (.t 21)),n 23 22 (.mv (.t 3)),n 24 22 (.bin .gtr (.t 23) (i 0)),n 25 22 (.mv (.t 24)),y 26 25 (.mv (.t 0)),y 27 25 (.mv (.t 3)),y 28 25 (.bin .sub (.t 27) (i 1)),y 29 25 (.ixA 6 (.t 26) (.t 28)),y 30 25 (.fA 0 (.t 29)),y 31 25 (.ld (some 3) (.t 30)),y 32 25 (.fA 0 (.t 4)),y 33 25 (.ld (some 3) (.t 32)),y 34 25 (.callF 74 [(.t 31),(.t 33)]),y 35 25 (.bin .geq (.t 34) (i 0)),n 36 22 (.pick (.t 25) (.t 35) (.c (.bool false))),o 37 (.pick (.t 22) (.c (.bool true)) (.t 36))] [0,5,6,7,37]) (.cond (.t 37) (.seq (r [o 2 (.mv (.c (.bool false)))] [2]) .ret) .skip)))) (r [o 38 (.bin .add (.t 7) (i 1)),o 7 (.mv (.t 38))] [0,5,6,7]))))))) (.seq (r [o 39 (.mv (.t 0)),o 40 (.lenS (.t 39)),o 41 (.bin .gtr (.t 40) (i 0)),o 42 (.mv (.t 41)),y 43 42 (.mv (.t 0)),y 44 42 (.ixA 6 (.t 43) (i 0)),y 45 42 (.fA 0 (.t 44)),y 46 42 (.ld (some 3) (.t 45)),y 47 42 (.callF 97 []),y 48 42 (.callF 106 [(.t 46),(.t 47)]),o 49 (.pick (.t 42) (.t 48) (.c (.bool false))),o 2 (.mv (.t 49))] [2]) .ret))),[.t 2]⟩
theorem privacy_corners_ok : cFn Tryz.prog (kps [[0],[0,5,6,7],[0,5,6,7,8],[0,3,4,5,6,7],[0,5,6,7,37],[2],[0,5,6,7],[2]]) [] 71 = some privacy_corners_c := by kernel_rfl
abbrev privacy_At : Nat := 31
def privacy_At_c : MFn := ⟨74,(.seq (r [o 3 (.box (.t 1)),o 4 (.alloc zR),o 5 (.mv (i 0))] [0,3,4]) (.seq (.seq (r [o 11 (.mv (.t 0)),o 12 (.call 71 [(.t 11)]),o 13 (.un .not (.t 12)),o 14 (.mv (.t 13)),n 15 14 (.ld (some 3) (.t 3)),n 16 14 (.call 51 [(.t 15)]),n 17 14 (.un .not (.t 16)),o 18 (.pick (.t 14) (.c (.bool true)) (.t 17))] [0,3,4,18]) (.cond (.t 18) (.seq (r [o 19 (.build zR []),z (.st 3 (.t 4) (.t 19)),o 5 (.mv (i 1))] [4,5]) .ret) .skip)) (.seq (r [o 21 (.mv (.t 0)),o 22 (.ld (some 3) (.t 3)),o 23 (.call 72 [(.t 21),(.t 22),(.c (.clo 73 []))]),o 20 (.mv (.t 23)),o 24 (.ext (.t 20) 0),o 25 (.ext (.t 20) 1),o 6 (.mv (.t 24)),o 7 (.mv (.t 25))] [0,3,4,6,7]) (.seq (.seq (r [o 26 (.mv (.t 7))] [0,3,4,6,26]) (.cond (.t 26) (.seq (r [o 27 (.mv (.t 0)),o 28 (.mv (.t 6)),o 29 (.ixA 6 (.t 27) (.t 28)),o 30 (.fA 3 (.t 29)),o 31 (.ld (some 3) (.t 30)),o 32 (.call 75 [(.t 31)]),z (.st 3 (.t 4) (.t 32)),o 5 (.mv (i 0))] [4,5]) .ret) .skip)) (.seq (r [o 33 (.mv (.t 0)),o 34 (.mv (.t 6)),o 35 (.bin .sub (.t 34) (i 1)),o 36 (.ixA 6 (.t 33) (.t 35)),o 37 (.ld (some 6) (.t 36)),o 8 (.alloc [.bool false,.nils,.nils,.bool false,.nils,.nils]),z (.st 6 (.t 8) (.t 37))] [0,3,4,6,8]) (.seq (.seq (r [o 38 (.mv (.t 6)),o 39 (.mv (.t 0)),o 40 (.lenS (.t 39)),o 41 (.bin .eql (.t 38) (.t 40))] [0,3,4,6,8,41]) (.cond (.t 41) (.seq (r [o 42 (.fA 3 (.t 8)),o 43 (.ld (some 3) (.t 42)),o 44 (.call 75 [(.t 43)]),z (.st 3 (.t 4) (.t 44)),o 5 (.mv (i 0))] [4,5]) .ret) .skip)) (.seq (r [o 46 (.ld (some 3) (.t 3)),o 47 (.fA 0 (.t 8)),o 48 (.ld (some 3) (.t 47)),o 49 (.callF 77 [(.t 46),(.t 48)]),o 50 (.mv (.t 0)),o 51 (.mv (.t 6)),o 52 (.ixA 6 (.t 50) (.t 51)),o 53 (.fA 0 (.t 52)),o 54 (.ld (some 3) (.t 53)),o 55 (.fA 0 (.t 8)),o 56 (.ld (some 3) (.t 55)),o 57 (.callF 77 [(.t 54),(.t 56)]),o 58 (.callF 76 [(.t 49),(.t 57)]),o 45 (.mv (.t 58)),o 59 (.ext (.t 45) 0),o 60 (.ext (.t 45) 1),o 9 (.alloc zR),z (.st 3 (.t 9) (.t 59)),o 10 (.mv (.t 60))] [0,4,6,8,9]) (.seq (r [o 61 (.fA 3 (.t 8)),o 62 (.ld (some 3) (.t 61)),o 63 (.ld (some 3) (.t 9)),o 64 (.mv (.t 0)),o 65 (.mv (.t 6)),o 66 (.ixA 6 (.t 64) (.t 65)),o 67 (.fA 3 (.t 66)),o 68 (.ld (some 3) (.t 67)),o 69 (.fA 3 (.t 8)),o 70 (.ld (some 3) (.t 69)),o 71 (.callF 77 [(.t 68),(.t 70)]),o 72 (.callF 79 [(.t 63),(.t 71)]),o 73 (.callF 78 [(.t 62),(.t 72)]),z (.st 3 (.t 4) (.t 73)),o 5 (.mv (i 0))] [4,5]) .ret)))))))),[.cell 4 (some 3),.t 5]⟩
theorem privacy_At_ok : cFn Tryz.prog (kps [[0,3,4],[0,3,4,18],[4,5],[0,3,4,6,7],[0,3,4,6,26],[4,5],[0,3,4,6,8],[0,3,4,6,8,41],[4,5],[0,4,6,8,9],[4,5]]) [] 31 = some privacy_At_c := by kernel_rfl
end Go.Proofs.YtipbefckimdkkaaGreat.F

namespace Go.Proofs.YtipbefckimdkkaaGreat
open Go Go.Proofs Go.Proofs.YtipbefckimdkkaaGreat.E
set_option linter.unusedSimpArgs false
set_option linter.unusedVariables false
structure Cor where
 r : Raw
 s : Raw
def corC (c : Cor) : List V := c.r.c ++ c.s.c
abbrev cl (l : List Cor) : V := .dat (l.map corC)
@[simp] theorem corC_length (c : Cor) : (corC c).length = 6 := by simp [corC]
@[simp] theorem corC_take6 (c : Cor) : (corC c).take 6 = corC c := List.take_of_length_le (by simp)
@[simp] theorem corC_take3 (c : Cor) : (corC c).take 3 = c.r.c := by simp [corC, List.take_append]
@[simp] theorem corC_drop3 (c : Cor) : (corC c).drop 3 = c.s.c := by simp [corC, List.drop_append]
theorem toD_corC (σ : Sto) (n : Nat) (c : Cor) : mapO (toD σ (n + 1)) (corC c) = some (corC c) := by simp [corC, Raw.c]
theorem own_Ratio {x : Raw} {k : Nat} (hx : x.Ok k) (hk : k ≤ 2 ^ 33) : CallD Tryz.prog F.own_Ratio [x.v] (· = x.v) := by
 have h1 := hx.ln
 have h2 := hx.ld
 refine callD_by F.own_Ratio_ok ?_
 unfold F.own_Ratio_c
 simp [setOb, List.filter_cons, Raw.v]
 refine callFK_of (slices_Clone (l := x.num) (by omega)) (by simp) ?_
 simp
 refine callFK_of (slices_Clone (l := x.den) (by omega)) (by simp) ?_
 simp [setOb, List.filter_cons]
theorem fits_div {a b : Rat} {k l : Nat} (ha : Fits a k) (hb : Fits b l) (h1 : 1 ≤ k) : Fits (a / b) (k + l) := by
 by_cases h0 : b = 0
 ·subst h0
  have : a / 0 = 0 := by rw [Rat.div_def, Rat.inv_zero, Rat.mul_zero]
  rw [this]; exact fits_zero.mono (by omega)
 have e := Raw.div_q (rawOf_ok ha) (rawOf_ok hb) (by rw [rawOf_q]; exact h0)
 rw [rawOf_q, rawOf_q] at e
 rw [e]
 have na := val_nonneg (rawOf_ok ha).dn
 have nb := val_nonneg (rawOf_ok ha).dd
 have nc := val_nonneg (rawOf_ok hb).dn
 have nd := val_nonneg (rawOf_ok hb).dd
 have l1 := (rawOf_ok ha).ln
 have l2 := (rawOf_ok ha).ld
 have l3 := (rawOf_ok hb).ln
 have l4 := (rawOf_ok hb).ld
 have d1 := digs_mul_val (rawOf_ok ha).dn (rawOf_ok hb).dd
 have d2 := digs_mul_val (rawOf_ok ha).dd (rawOf_ok hb).dn
 have m1 := Int.mul_nonneg na nd
 have m2 := Int.mul_nonneg nb nc
 have := fits_mkRat (neg := ((rawOf a).neg != (rawOf b).neg)) (n := (val (rawOf a).num * val (rawOf b).den).toNat) (d := (val (rawOf a).den * val (rawOf b).num).toNat) (k := k + l) (by rw [natCast_toNat m1]; omega) (by rw [natCast_toNat m2]; omega) (by omega)
 rwa [natCast_toNat m1] at this
def corAt (l : List Cor) (i : Nat) : Bool := match l[i]? with
 | some c => ratedB c.r && c.s.right && (decide (i = 0) || match l[i - 1]? with | some b => decide (b.r.q < c.r.q) | none => false)
 | none => true
def cornersB (l : List Cor) : Bool := (List.range l.length).all (corAt l) && match l[0]? with | some c => decide (c.r.q = 1) | none => false
theorem corAt_eq {l : List Cor} {i : Nat} (h : i < l.length) : corAt l i = (ratedB l[i].r && l[i].s.right && (decide (i = 0) || decide ((l[i - 1]'(by omega)).r.q < l[i].r.q))) := by
 unfold corAt
 rw [List.getElem?_eq_getElem h, List.getElem?_eq_getElem (show i - 1 < l.length by omega)]
theorem corners_false {l : List Cor} {i : Nat} (h : i < l.length) (hf : corAt l i = false) : cornersB l = false := by
 unfold cornersB
 have : (List.range l.length).all (corAt l) = false := by rw [List.all_eq_false]; exact ⟨i, List.mem_range.2 h, by simp [hf]⟩
 rw [this]; rfl
structure Corn (l : List Cor) : Prop where
 ne : l ≠ []
 one : ∀ h : 0 < l.length, l[0].r.q = 1
 rated : ∀ i (h : i < l.length), ratedB l[i].r = true
 right : ∀ i (h : i < l.length), l[i].s.right = true
 up : ∀ i j (hi : i < l.length) (hj : j < l.length), i < j → l[i].r.q < l[j].r.q
theorem corn_of {l : List Cor} (h : cornersB l = true) : Corn l := by
 simp only [cornersB, Bool.and_eq_true, List.all_eq_true, List.mem_range] at h
 obtain ⟨h1, h2⟩ := h
 have ne : l ≠ [] := by rintro rfl; simp at h2
 have step : ∀ i (h : i + 1 < l.length), l[i].r.q < l[i + 1].r.q := fun i h => by
  have := h1 (i + 1) h
  rw [corAt_eq h, Bool.and_eq_true] at this
  simpa using this.2
 refine ⟨ne, fun h => ?_, fun i h => ?_, fun i h => ?_, ?_⟩
 ·rw [List.getElem?_eq_getElem h] at h2; simpa using h2
 ·have := h1 i h; rw [corAt_eq h] at this; simp only [Bool.and_eq_true] at this; exact this.1.1
 ·have := h1 i h; rw [corAt_eq h] at this; simp only [Bool.and_eq_true] at this; exact this.1.2
 ·intro i j hi hj hij
  induction j with
  | zero => omega
  | succ j ih =>
    by_cases e : i = j
    ·subst e; exact step i hj
    ·have := ih (by omega) (by omega)
     have := step j hj
     grind
def lerp (c d : Cor) (x : Rat) : Rat := c.s.q + (x - c.r.q) / (d.r.q - c.r.q) * (d.s.q - c.s.q)
def atV (l : List Cor) (x : Rat) (v : Rat) : Prop := ∃ (m : Nat) (h : m < l.length), (∀ j (hj : j < l.length), j ≤ m → l[j].r.q ≤ x) ∧ (∀ j (hj : j < l.length), m < j → x < l[j].r.q) ∧
 v = if h2 : m + 1 < l.length then lerp l[m] l[m + 1] x else l[m].s.q
def atR (l : List Cor) (x : Raw) (r : V) : Prop := if cornersB l && ratedB x then ∃ v, atV l x.q v ∧ r = .tup [ratV v, .int .i64 0] else r = .tup [zeroA, .int .i64 1]
theorem atR_ok {l : List Cor} {x : Raw} (h1 : cornersB l = true) (h2 : ratedB x = true) (r : V) : atR l x r ↔ ∃ v, atV l x.q v ∧ r = .tup [ratV v, .int .i64 0] := by unfold atR; rw [h1, h2]; rfl
theorem lerp_self (c d : Cor) : lerp c d c.r.q = c.s.q := by
 unfold lerp
 have : c.r.q - c.r.q = 0 := by grind
 rw [this, Rat.div_def, Rat.zero_mul, Rat.zero_mul, Rat.add_zero]
theorem privacy_At_1 {c : Cor} {x : Raw} (hc : c.r.Ok (2 ^ 33)) (hx : x.Ok (2 ^ 33)) : CallD Tryz.prog F.privacy_At_1 [.agg (corC c), .agg x.c] (· = .int .i64 (cmpR c.r.q x.q)) := by
 refine callD_by F.privacy_At_1_ok ?_
 unfold F.privacy_At_1_c
 simp [setOb, List.filter_cons]
 refine callK_of (ratio_Compare hc hx) (by simp [toD_rawc, raw_v]) ?_
 simp
theorem search_Cor {l : List Cor} {x : Raw} {K : Nat} (hK : K ≤ 2 ^ 33) (hl : l.length ≤ 1000000) (ho : ∀ c ∈ l, c.r.Ok K) (hx : x.Ok K) (hr : ∀ i j (hi : i < l.length) (hj : j < l.length), i < j → l[i].r.q < l[j].r.q) :
 CallD Tryz.prog F.slices_BinarySearchFunc_Corner_Corner_Ratio [cl l, .agg x.c, .clo F.privacy_At_1 []] (fun r => ∃ i : Nat, i ≤ l.length ∧ (∀ j (hj : j < l.length), j < i → l[j].r.q < x.q) ∧ (∀ j (hj : j < l.length), i ≤ j → x.q ≤ l[j].r.q) ∧ r = .tup [.int .i64 i, .bool (decide (∃ h : i < l.length, l[i].r.q = x.q))]) := by
 have hx33 : x.Ok (2 ^ 33) := hx.mono hK
 refine callD_by F.slices_BinarySearchFunc_Corner_Corner_Ratio_ok ?_
 unfold F.slices_BinarySearchFunc_Corner_Corner_Ratio_c
 simp [setOb, List.filter_cons]
 refine wm_loop (fun g : Nat × Nat => ((((((Sl.empty.set 10 (.int .i64 g.2)).set 9 (.int .i64 g.1)).set 8 (.int .i64 l.length)).set 4 (.ptr 0 0 0)).set 2 (.clo F.privacy_At_1 [])).set 0 (cl l), [(0, ⟨.own, 3, [x.c]⟩)]))
  (fun g => g.1 ≤ g.2 ∧ g.2 ≤ l.length ∧ (∀ t (ht : t < l.length), t < g.1 → l[t].r.q < x.q) ∧ (∀ t (ht : t < l.length), g.2 ≤ t → x.q ≤ l[t].r.q)) (fun g => g.2 - g.1) (0, l.length) ⟨by simp, by simp, fun t ht h => by simp at h, fun t ht h => by dsimp only at h; omega⟩ ?_ ?_
 ·refine weak_obs ?_ (by simp) (by repeat (first | exact sin_empty | refine sin_set (by simp) ?_)) (by simp; exact fun y hy => rawc_within _ y hy)
  repeat (first | exact sub_empty | refine sub_set (by simp) ?_)
 rintro ⟨i, j⟩ ⟨h1, h2, h3, h4⟩
 dsimp only at h1 h2 h3 h4
 by_cases h5 : i < j
 ·obtain ⟨m, em⟩ : ∃ m : Nat, m = (i + j) / 2 := ⟨_, rfl⟩
  have hm : IntKind.i64.wrap (IntKind.u64.wrap (IntKind.i64.wrap (↑i + ↑j)) / 2) = (m : Int) := by
   rw [wrap64 (x := (i : Int) + j) (by omega) (by omega), wrapU64 (by omega) (by omega), wrap64 (by omega) (by omega)]; omega
  have hml : m < l.length := by omega
  simp [h5, hm, hml]
  refine ⟨_, _, ⟨rfl, rfl⟩, callXK_of (privacy_At_1 ((ho _ (List.getElem_mem hml)).mono hK) hx33) (by simp [toD_rawc, toD_corC]) ?_⟩
  by_cases hc : l[m].r.q < x.q
  ·have hc' := cmpR_lt.2 hc
   simp [hc']
   rw [wrap64 (by omega) (by omega)]
   refine ⟨(m + 1, j), ⟨by dsimp only; omega, h2, fun t ht h => ?_, h4⟩, by dsimp only; omega, ?_⟩
   ·by_cases e : t = m
    ·subst e; exact hc
    ·have := hr t m ht hml (by dsimp only at h; omega); grind
   ·refine weak_obs ?_ (by simp) (by repeat (first | exact sin_empty | refine sin_set (by simp) ?_)) (by simp; exact fun y hy => rawc_within _ y hy)
    repeat (first | exact sub_empty | refine sub_set (by simp) ?_)
  ·have hc' : ¬ cmpR l[m].r.q x.q < 0 := fun h => hc (cmpR_lt.1 h)
   simp [hc']
   refine ⟨(i, m), ⟨by dsimp only; omega, by dsimp only; omega, h3, fun t ht h => ?_⟩, by dsimp only; omega, ?_⟩
   ·dsimp only at h
    by_cases e : t = m
    ·subst e; exact Rat.not_lt.1 hc
    ·have := hr m t hml ht (by omega); grind
   ·refine weak_obs ?_ (by simp) (by repeat (first | exact sin_empty | refine sin_set (by simp) ?_)) (by simp; exact fun y hy => rawc_within _ y hy)
    repeat (first | exact sub_empty | refine sub_set (by simp) ?_)
 ·have : i = j := by omega
  subst this
  by_cases h6 : i < l.length
  ·simp [h6]
   refine ⟨_, _, ⟨rfl, rfl⟩, callXK_of (privacy_At_1 ((ho _ (List.getElem_mem h6)).mono hK) hx33) (by simp [toD_rawc, toD_corC]) ?_⟩
   simp
   refine ⟨i, by omega, h3, h4, rfl, ?_⟩
   simp [cmpR_eq, h6]
  ·simp [h6]
   exact ⟨i, by omega, h3, h4, rfl, fun h => (h6 h).elim⟩
end Go.Proofs.YtipbefckimdkkaaGreat

namespace Go.Proofs.YtipbefckimdkkaaGreat
open Go Go.Proofs Go.Proofs.YtipbefckimdkkaaGreat.E
set_option linter.unusedSimpArgs false
set_option linter.unusedVariables false
theorem same_raw {x : Raw} {k : Nat} (hx : x.Ok k) (h : x.right = true) : x = rawOf x.q := (Raw.right_iff hx).1 h
theorem one_of_rated {x : Raw} (h : ratedB x = true) : 1 ≤ x.q := by simp only [ratedB, Bool.and_eq_true, decide_eq_true_eq] at h; exact h.2
set_option maxHeartbeats 4000000 in
theorem privacy_corners {l : List Cor} {K : Nat} (hK : K ≤ 2 ^ 31) (hl : l.length ≤ 1000000) (ho : ∀ c ∈ l, c.r.Ok K ∧ c.s.Ok K) : CallD Tryz.prog F.privacy_corners [cl l] (· = .bool (cornersB l)) := by
 refine callD_by F.privacy_corners_ok ?_
 unfold F.privacy_corners_c
 simp
 refine wm_loop (fun g : Nat => ((((Sl.empty.set 7 (.int .i64 g)).set 6 (.int .i64 l.length)).set 5 (cl l)).set 0 (cl l), [])) (fun g => g ≤ l.length ∧ ∀ j, j < g → corAt l j = true) (fun g => l.length - g) 0 ⟨by omega, by omega⟩ ?_ ?_
 ·exact weak_p (by repeat (first | exact sub_empty | refine sub_set (by simp) ?_)) (by repeat (first | exact sin_empty | refine sin_set (by simp) ?_))
 rintro i ⟨hi, hb⟩
 by_cases h1 : i < l.length
 ·obtain ⟨o1, o2⟩ := ho _ (List.getElem_mem h1)
  have hbad := corners_false h1
  have heq := corAt_eq h1
  have tk : List.take 6 (corC l[i]) = corC l[i] := by simp
  have next : ∀ S : Sl, corAt l i = true → (S 7 = some (.int .i64 ((i : Int) + 1)) ∧ S 6 = some (.int .i64 l.length) ∧ S 5 = some (cl l) ∧ S 0 = some (cl l)) → ∀ σ : Sto,
   Again [] (fun g : Nat => ((((Sl.empty.set 7 (.int .i64 g)).set 6 (.int .i64 l.length)).set 5 (cl l)).set 0 (cl l), ([] : Sto))) (fun g => g ≤ l.length ∧ ∀ j, j < g → corAt l j = true) (fun g => l.length - g) i S σ := by
   rintro S hc ⟨s1, s2, s3, s4⟩ σ
   refine ⟨i + 1, ⟨h1, fun j hj => ?_⟩, by dsimp only; omega, ?_⟩
   ·by_cases e : j = i
    ·subst e; exact hc
    ·exact hb j (by omega)
   ·exact weak_p (sub_set s4 (sub_set s3 (sub_set s2 (sub_set s1 sub_empty)))) (by repeat (first | exact sin_empty | refine sin_set (by simp) ?_))
  simp [h1, setOb, List.filter_cons]
  refine callFK_of (privacy_rated (o1.mono hK)) (by simp [toD_rawc, raw_v]) ?_
  cases c1 : ratedB l[i].r with
  | false => have := hbad (by rw [heq, c1]; rfl); simp [this]
  | true =>
  simp
  refine callFK_of (ratio_Right (o2.mono (by omega))) (by simp [toD_rawc, raw_v]) ?_
  cases c2 : l[i].s.right with
  | false => have := hbad (by rw [heq, c1, c2]; rfl); simp [this]
  | true =>
  by_cases i0 : i = 0
  ·subst i0
   have hc : corAt l 0 = true := by rw [heq, c1, c2]; rfl
   simp
   rw [wrap64 (by omega) (by omega)]
   exact next _ hc (by simp) _
  ·have ip : 0 < i := by omega
   have li : i - 1 < l.length := by omega
   obtain ⟨o3, _⟩ := ho _ (List.getElem_mem li)
   simp [ip, i0]
   rw [wrap64 (by omega) (by omega)]
   have e1 : ((i : Int) - 1).toNat = i - 1 := by omega
   have e3 : (1 : Int) ≤ i := by omega
   simp [e1, e3, li]
   refine callFK_of (ratio_Compare (o3.mono (by omega)) (o1.mono (by omega))) (by simp [toD_rawc, raw_v]) ?_
   by_cases c3 : l[i - 1].r.q < l[i].r.q
   ·have hc : corAt l i = true := by rw [heq, c1, c2]; simp [c3]
    have hn : ¬ 0 ≤ cmpR l[i - 1].r.q l[i].r.q := by have := cmpR_lt.2 c3; omega
    simp [hn]
    rw [wrap64 (by omega) (by omega)]
    exact next _ hc (by simp) _
   ·have hc := hbad (by rw [heq, c1, c2]; simp [c3, i0])
    have hn : 0 ≤ cmpR l[i - 1].r.q l[i].r.q := cmpR_nn.2 (Rat.not_lt.1 c3)
    simp [hn, hc]
 ·have hall : (List.range l.length).all (corAt l) = true := by rw [List.all_eq_true]; exact fun j hj => hb j (by have := List.mem_range.1 hj; omega)
  simp [h1]
  unfold cornersB
  rw [hall]
  cases l with
  | nil => simp
  | cons c l =>
    obtain ⟨o1, _⟩ := ho c (by simp)
    have hp : (0 : Int) < l.length + 1 := by omega
    simp [hp]
    refine callFK_of ratio_One (by simp) ?_
    simp [ratV, raw_v]
    refine callFK_of (ratio_Same (o1.mono (by omega)) (one_ok.mono (by omega))) (by simp [toD_rawc, raw_v]) ?_
    rw [rawOf_q]
    simp
set_option maxHeartbeats 4000000 in
theorem privacy_At {l : List Cor} {x : Raw} {K : Nat} (k1 : 1 ≤ K) (hK : K ≤ 10000000) (hl : l.length ≤ 1000000) (ho : ∀ c ∈ l, c.r.Ok K ∧ c.s.Ok K) (hx : x.Ok K) : CallD Tryz.prog F.privacy_At [cl l, x.v] (atR l x) := by
 refine callD_by F.privacy_At_ok ?_
 unfold F.privacy_At_c
 simp [setOb, List.filter_cons, raw_v]
 refine callK_of (privacy_corners (by omega) hl ho) (by simp) ?_
 cases hc : cornersB l with
 | false => simp [setOb, List.filter_cons, atR, hc]
 | true =>
 simp
 refine callK_of (privacy_rated (hx.mono (by omega))) (by simp [toD_rawc, raw_v]) ?_
 cases hr : ratedB x with
 | false => simp [setOb, List.filter_cons, atR, hc, hr]
 | true =>
 have C := corn_of hc
 have lp : 0 < l.length := List.length_pos_iff.2 C.ne
 have x1 := one_of_rated hr
 simp
 refine callK_rel (search_Cor (K := K) (by omega) hl (fun c h => (ho c h).1) hx C.up) ?_ ?_
 ·simp [toD_rawc]
  rw [E.toD_clo0]
 rintro r ⟨i, hi, lo, hi2, rfl⟩
 by_cases hf : ∃ h : i < l.length, l[i].r.q = x.q
 ·obtain ⟨h, he⟩ := hf
  obtain ⟨o1, o2⟩ := ho _ (List.getElem_mem h)
  have hv : atV l x.q l[i].s.q := by
   refine ⟨i, h, fun j hj hji => ?_, fun j hj hji => ?_, ?_⟩
   ·by_cases e : j = i
    ·subst e; grind
    ·have := lo j hj (by omega); grind
   ·have := C.up i j h hj hji; grind
   ·split
    ·rw [← he, lerp_self]
    ·rfl
  have hs : ratV l[i].s.q = l[i].s.v := by unfold ratV; rw [← same_raw o2 (C.right i h)]
  simp [h, he]
  refine callK_of (own_Ratio o2 (by omega)) (by simp [toD_rawc, raw_v]) ?_
  simp [setOb, List.filter_cons, raw_v, toD_rawc]
  rw [atR_ok hc hr]
  exact ⟨_, hv, by rw [hs]; rfl⟩
 ·have i0 : 0 < i := by
   refine Nat.pos_of_ne_zero fun e => ?_
   subst e
   have a1 := hi2 0 lp (by omega)
   have a2 := C.one lp
   exact hf ⟨lp, by grind⟩
  have li : i - 1 < l.length := by omega
  obtain ⟨p1, p2⟩ := ho _ (List.getElem_mem li)
  have below : ∀ j (hj : j < l.length), j ≤ i - 1 → l[j].r.q ≤ x.q := fun j hj hji => by have := lo j hj (by omega); grind
  have above : ∀ j (hj : j < l.length), i - 1 < j → x.q < l[j].r.q := fun j hj hji => by
   have a1 := hi2 j hj (by omega)
   by_cases e : l[j].r.q = x.q
   ·by_cases e2 : j = i
    ·subst e2; exact (hf ⟨hj, e⟩).elim
    ·have := C.up i j (by omega) hj (by omega); have := hi2 i (by omega) (by omega); grind
   ·grind
  have hf' : ∀ h : i < l.length, ¬ l[i].r.q = x.q := fun h e => hf ⟨h, e⟩
  have e1 : ((i : Int) - 1).toNat = i - 1 := by omega
  have e3 : (1 : Int) ≤ i := by omega
  have tk : List.take 6 (corC l[i - 1]) = corC l[i - 1] := by simp
  simp [hf']
  rw [wrap64 (by omega) (by omega)]
  simp [e1, e3, li]
  by_cases he : i = l.length
  ·have hv : atV l x.q l[i - 1].s.q := ⟨i - 1, li, below, above, by rw [dif_neg (by omega)]⟩
   have hs : ratV l[i - 1].s.q = l[i - 1].s.v := by unfold ratV; rw [← same_raw p2 (C.right _ li)]
   subst he
   simp [setOb, List.filter_cons]
   refine callK_of (own_Ratio p2 (by omega)) (by simp [toD_rawc, raw_v]) ?_
   simp [setOb, List.filter_cons, raw_v, toD_rawc]
   rw [atR_ok hc hr]
   exact ⟨_, hv, by rw [hs]; rfl⟩
  ·have h : i < l.length := by omega
   obtain ⟨o1, o2⟩ := ho _ (List.getElem_mem h)
   have up := C.up (i - 1) i li h (by omega)
   have e4 : i - 1 + 1 = i := by omega
   have hv : atV l x.q (lerp l[i - 1] l[i] x.q) := ⟨i - 1, li, below, above, by rw [dif_pos (by omega)]; congr 1; simp [e4]⟩
   have f1 := fits_sub (Raw.fits hx k1) (Raw.fits p1 k1)
   have f2 := fits_sub (Raw.fits o1 k1) (Raw.fits p1 k1)
   have f3 := fits_div f1 f2 (by omega)
   have f4 := fits_sub (Raw.fits o2 k1) (Raw.fits p2 k1)
   have f5 := fits_mul f3 f4 (by omega)
   have hn : ¬ l[i].r.q - l[i - 1].r.q = 0 := by grind
   have he' : ¬ (i : Int) = l.length := by omega
   simp [he, he', h, setOb, List.filter_cons]
   refine callFK_of (ratio_Sub (hx.mono (by omega)) (p1.mono (by omega))) (by simp [toD_rawc, raw_v]) ?_
   simp [ratV, raw_v, h]
   refine callFK_of (ratio_Sub (o1.mono (by omega)) (p1.mono (by omega))) (by simp [toD_rawc, raw_v]) ?_
   simp [ratV, raw_v]
   refine callFK_of (ratio_Div (rawOf_ok (f1.mono (by omega))) (rawOf_ok (f2.mono (by omega)))) (by simp [toD_rawc, raw_v]) ?_
   rw [rawOf_q, rawOf_q]
   unfold divR
   rw [if_neg hn]
   simp [ratV, raw_v, h, setOb, List.filter_cons]
   refine callFK_of (ratio_Sub (o2.mono (by omega)) (p2.mono (by omega))) (by simp [toD_rawc, raw_v]) ?_
   simp [ratV, raw_v]
   refine callFK_of (ratio_Mul (rawOf_ok (f3.mono (by omega))) (rawOf_ok (f4.mono (by omega)))) (by simp [toD_rawc, raw_v]) ?_
   rw [rawOf_q, rawOf_q]
   simp [ratV, raw_v]
   refine callFK_of (ratio_Add (p2.mono (by omega)) (rawOf_ok (f5.mono (by omega)))) (by simp [toD_rawc, raw_v]) ?_
   rw [rawOf_q]
   simp [setOb, List.filter_cons, ratV, raw_v, toD_rawc]
   rw [atR_ok hc hr]
   exact ⟨_, hv, rfl⟩
end Go.Proofs.YtipbefckimdkkaaGreat

namespace Go.Proofs.YtipbefckimdkkaaGreat
open Go Go.Proofs Go.Proofs.YtipbefckimdkkaaGreat.E
set_option linter.unusedSimpArgs false
set_option linter.unusedVariables false
end Go.Proofs.YtipbefckimdkkaaGreat
