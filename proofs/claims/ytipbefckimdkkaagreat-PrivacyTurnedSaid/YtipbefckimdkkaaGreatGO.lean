import Derived.Test.YtipbefckimdkkaaGreatGN
import Derived.Test.YtipbefckimdkkaaGreatGL
import Derived.Test.YtipbefckimdkkaaGreatGC
import Derived.Test.YtipbefckimdkkaaGreatProg
import Derived.KernelRfl
import Derived.Test.YtipbefckimdkkaaGreatGD
namespace Go.Proofs.YtipbefckimdkkaaGreat.F
open Go Go.Proofs Go.Proofs.YtipbefckimdkkaaGreat.E Go.Proofs.YtipbefckimdkkaaGreat.Q
abbrev couple_Right : Nat := 87
def couple_Right_c : MFn := ⟨57,(.seq (r [o 2 (.mv (.c (.bool false)))] [0]) (.seq (.seq (r [o 6 (.mv (.t 0)),o 7 (.lenS (.t 6)),o 8 (.bin .gtr (.t 7) (i 60))] [0,8]) (.cond (.t 8) (.seq (r [o 2 (.mv (.c (.bool false)))] [2]) .ret) .skip)) (.seq (r [o 9 (.call 88 []),o 3 (.alloc zR),z (.st 3 (.t 3) (.t 9))] [0,3]) (.seq (.seq (r [o 10 (.mv (.t 0)),o 11 (.lenS (.t 10)),o 12 (.mv (i 0))] [0,3,10,11,12]) (.block 0 (.loop (.seq (r [o 13 (.bin .lss (.t 12) (.t 11))] [0,3,10,11,12,13]) (.seq (.cond (.t 13) .skip (.exit 0)) (.seq (.block 1 (.seq (r [o 14 (.mv (.t 12)),o 15 (.ixA 6 (.t 10) (.t 12)),o 16 (.ld (some 6) (.t 15)),o 5 (.alloc zP),o 4 (.mv (.t 14)),z (.st 6 (.t 5) (.t 16))] [0,3,4,5,10,11,12]) (.seq (.seq (r [o 17 (.fA 0 (.t 5)),o 18 (.ld (some 3) (.t 17)),o 19 (.callF 122 [(.t 18)]),o 20 (.un .not (.t 19)),o 21 (.mv (.t 20)),n 22 21 (.fA 3 (.t 5)),n 23 21 (.ld (some 3) (.t 22)),n 24 21 (.callF 85 [(.t 23)]),n 25 21 (.un .not (.t 24)),o 26 (.pick (.t 21) (.c (.bool true)) (.t 25)),o 27 (.mv (.t 26)),n 28 27 (.fA 3 (.t 5)),n 29 27 (.ld (some 3) (.t 28)),n 30 27 (.callF 108 [(.t 29)]),n 31 27 (.bin .leq (.t 30) (i 0)),o 32 (.pick (.t 27) (.c (.bool true)) (.t 31)),o 33 (.mv (.t 32)),n 34 33 (.mv (.t 4)),n 35 33 (.bin .gtr (.t 34) (i 0)),n 36 33 (.mv (.t 35)),y 37 36 (.mv (.t 0)),y 38 36 (.mv (.t 4)),y 39 36 (.bin .sub (.t 38) (i 1)),y 40 36 (.ixA 6 (.t 37) (.t 39)),y 41 36 (.fA 0 (.t 40)),y 42 36 (.ld (some 3) (.t 41)),y 43 36 (.fA 0 (.t 5)),y 44 36 (.ld (some 3) (.t 43)),y 45 36 (.callF 93 [(.t 42),(.t 44)]),y 46 36 (.bin .geq (.t 45) (i 0)),n 47 33 (.pick (.t 36) (.t 46) (.c (.bool false))),o 48 (.pick (.t 33) (.c (.bool true)) (.t 47))] [0,3,5,10,11,12,48]) (.cond (.t 48) (.seq (r [o 2 (.mv (.c (.bool false)))] [2]) .ret) .skip)) (r [o 49 (.ld (some 3) (.t 3)),o 50 (.fA 3 (.t 5)),o 51 (.ld (some 3) (.t 50)),o 52 (.call 78 [(.t 49),(.t 51)]),z (.st 3 (.t 3) (.t 52))] [0,3,10,11,12])))) (r [o 53 (.bin .add (.t 12) (i 1)),o 12 (.mv (.t 53))] [0,3,10,11,12]))))))) (.seq (r [o 54 (.ld (some 3) (.t 3)),o 55 (.callF 97 []),o 56 (.callF 106 [(.t 54),(.t 55)]),o 2 (.mv (.t 56))] [2]) .ret))))),[.t 2]⟩
theorem couple_Right_ok : cFn Tryz.prog (kps [[0],[0,8],[2],[0,3],[0,3,10,11,12],[0,3,10,11,12,13],[0,3,4,5,10,11,12],[0,3,5,10,11,12,48],[2],[0,3,10,11,12],[0,3,10,11,12],[2]]) [] 87 = some couple_Right_c := by kernel_rfl
abbrev ref35_Right : Nat := 36
def ref35_Right_c : MFn := ⟨57,(.seq (r [o 2 (.mv (.c (.bool false)))] [0]) (.seq (.seq (r [o 6 (.mv (.t 0)),o 7 (.lenS (.t 6)),o 8 (.bin .gtr (.t 7) (i 60))] [0,8]) (.cond (.t 8) (.seq (r [o 2 (.mv (.c (.bool false)))] [2]) .ret) .skip)) (.seq (r [o 9 (.call 27 []),o 3 (.alloc zR),z (.st 3 (.t 3) (.t 9))] [0,3]) (.seq (.seq (r [o 10 (.mv (.t 0)),o 11 (.lenS (.t 10)),o 12 (.mv (i 0))] [0,3,10,11,12]) (.block 0 (.loop (.seq (r [o 13 (.bin .lss (.t 12) (.t 11))] [0,3,10,11,12,13]) (.seq (.cond (.t 13) .skip (.exit 0)) (.seq (.block 1 (.seq (r [o 14 (.mv (.t 12)),o 15 (.ixA 6 (.t 10) (.t 12)),o 16 (.ld (some 6) (.t 15)),o 5 (.alloc zP),o 4 (.mv (.t 14)),z (.st 6 (.t 5) (.t 16))] [0,3,4,5,10,11,12]) (.seq (.seq (r [o 17 (.fA 0 (.t 5)),o 18 (.ld (some 3) (.t 17)),o 19 (.callF 83 [(.t 18)]),o 20 (.un .not (.t 19)),o 21 (.mv (.t 20)),n 22 21 (.fA 3 (.t 5)),n 23 21 (.ld (some 3) (.t 22)),n 24 21 (.callF 49 [(.t 23)]),n 25 21 (.un .not (.t 24)),o 26 (.pick (.t 21) (.c (.bool true)) (.t 25)),o 27 (.mv (.t 26)),n 28 27 (.fA 3 (.t 5)),n 29 27 (.ld (some 3) (.t 28)),n 30 27 (.callF 44 [(.t 29)]),n 31 27 (.bin .leq (.t 30) (i 0)),o 32 (.pick (.t 27) (.c (.bool true)) (.t 31)),o 33 (.mv (.t 32)),n 34 33 (.mv (.t 4)),n 35 33 (.bin .gtr (.t 34) (i 0)),n 36 33 (.mv (.t 35)),y 37 36 (.mv (.t 0)),y 38 36 (.mv (.t 4)),y 39 36 (.bin .sub (.t 38) (i 1)),y 40 36 (.ixA 6 (.t 37) (.t 39)),y 41 36 (.fA 0 (.t 40)),y 42 36 (.ld (some 3) (.t 41)),y 43 36 (.fA 0 (.t 5)),y 44 36 (.ld (some 3) (.t 43)),y 45 36 (.callF 84 [(.t 42),(.t 44)]),y 46 36 (.bin .geq (.t 45) (i 0)),n 47 33 (.pick (.t 36) (.t 46) (.c (.bool false))),o 48 (.pick (.t 33) (.c (.bool true)) (.t 47))] [0,3,5,10,11,12,48]) (.cond (.t 48) (.seq (r [o 2 (.mv (.c (.bool false)))] [2]) .ret) .skip)) (r [o 49 (.ld (some 3) (.t 3)),o 50 (.fA 3 (.t 5)),o 51 (.ld (some 3) (.t 50)),o 52 (.call 17 [(.t 49),(.t 51)]),z (.st 3 (.t 3) (.t 52))] [0,3,10,11,12])))) (r [o 53 (.bin .add (.t 12) (i 1)),o 12 (.mv (.t 53))] [0,3,10,11,12]))))))) (.seq (r [o 54 (.ld (some 3) (.t 3)),o 55 (.callF 42 []),o 56 (.callF 24 [(.t 54),(.t 55)]),o 2 (.mv (.t 56))] [2]) .ret))))),[.t 2]⟩
theorem ref35_Right_ok : cFn Tryz.prog (kps [[0],[0,8],[2],[0,3],[0,3,10,11,12],[0,3,10,11,12,13],[0,3,4,5,10,11,12],[0,3,5,10,11,12,48],[2],[0,3,10,11,12],[0,3,10,11,12],[2]]) [] 36 = some ref35_Right_c := by kernel_rfl
end Go.Proofs.YtipbefckimdkkaaGreat.F

namespace Go.Proofs.YtipbefckimdkkaaGreat
open Go Go.Proofs Go.Proofs.YtipbefckimdkkaaGreat.E
set_option linter.unusedSimpArgs false
set_option linter.unusedVariables false
structure Part where
 v : Tr
 w : Raw
def E.Raw.c (x : Raw) : List V := [.bool x.neg, nat x.num, nat x.den]
theorem raw_v (x : Raw) : x.v = .agg x.c := rfl
@[simp] theorem rawc_length (x : Raw) : x.c.length = 3 := rfl
@[simp] theorem rch_rawc (σ : Sto) (n : Nat) (x : Raw) : x.c.flatMap (rch σ n) = [] := by simp [Raw.c]
theorem toD_rawc (σ : Sto) (n : Nat) (x : Raw) : mapO (toD σ (n + 1)) x.c = some x.c := by simp [Raw.c]
theorem rawc_within {p : Nat → Bool} (x : Raw) : ∀ y ∈ x.c, y.within p = true := by
 intro y hy; simp [Raw.c] at hy; rcases hy with rfl | rfl | rfl <;> simp
def partC (p : Part) : List V := p.v.cells ++ p.w.c
@[simp] theorem partC_length (p : Part) : (partC p).length = 6 := by simp [partC]
@[simp] theorem partC_take6 (p : Part) : (partC p).take 6 = partC p := List.take_of_length_le (by simp)
@[simp] theorem partC_drop6 (p : Part) : (partC p).drop 6 = [] := List.drop_eq_nil_of_le (by simp)
@[simp] theorem partC_take3 (p : Part) : (partC p).take 3 = p.v.cells := by simp [partC, List.take_append]
@[simp] theorem partC_drop3 (p : Part) : (partC p).drop 3 = p.w.c := by simp [partC, List.drop_append]
@[simp] theorem rawc_take3 (x : Raw) : x.c.take 3 = x.c := rfl
@[simp] theorem rawc_drop3 (x : Raw) : x.c.drop 3 = [] := rfl
abbrev pl (l : List Part) : V := .dat (l.map partC)
structure Part.Ok (p : Part) (k : Nat) : Prop where
 v : p.v.Ok
 w : p.w.Ok k
def sumQ (l : List Part) : Rat := l.foldl (fun s p => s + p.w.q) 0
theorem sumQ_snoc (l : List Part) (p : Part) : sumQ (l ++ [p]) = sumQ l + p.w.q := by simp [sumQ, List.foldl_append]
theorem sumQ_take {l : List Part} {i : Nat} (h : i < l.length) : sumQ (l.take (i + 1)) = sumQ (l.take i) + l[i].w.q := by
 rw [List.take_succ_eq_append_getElem h, sumQ_snoc]
def partAt (l : List Part) (i : Nat) : Bool :=
 match l[i]? with
 | some p => rightT p.v && p.w.right && decide (0 < p.w.q) && (decide (i = 0) || (match l[i - 1]? with | some q => decide (cmpT q.v p.v < 0) | none => false))
 | none => true
def rightP (l : List Part) : Bool := decide (l.length ≤ 60) && (List.range l.length).all (partAt l) && decide (sumQ l = 1)
theorem sgnR_pos_iff {a : Rat} : sgnR a ≤ 0 ↔ ¬ 0 < a := by
 unfold sgnR; rw [cmpR_le]; grind
theorem partAt_eq {l : List Part} {i : Nat} (h : i < l.length) : partAt l i = (rightT l[i].v && l[i].w.right && decide (0 < l[i].w.q) && (decide (i = 0) || (if h0 : 0 < i then decide (cmpT (l[i - 1]'(by omega)).v l[i].v < 0) else false))) := by
 unfold partAt
 rw [List.getElem?_eq_getElem h]
 simp only
 by_cases h0 : i = 0
 ·simp [h0]
 ·rw [List.getElem?_eq_getElem (show i - 1 < l.length by omega), dif_pos (by omega)]
set_option maxHeartbeats 4000000 in
theorem couple_Right {l : List Part} (hl : l.length < 9223372036854775808) (ho : ∀ p ∈ l, p.Ok 1000000) : CallD Tryz.prog F.couple_Right [pl l] (· = .bool (rightP l)) := by
 refine callD_by F.couple_Right_ok ?_
 unfold F.couple_Right_c rightP
 by_cases h60 : ¬ l.length ≤ 60
 ·have h60' : (60 : Int) < l.length := by omega
  simp [h60, h60']
 have h60 : l.length ≤ 60 := by omega
 have h60' : ¬ (60 : Int) < l.length := by omega
 simp [h60, h60']
 refine callK_of ratio_Zero (by simp) ?_
 simp [setOb, List.filter_cons, ratV, raw_v]
 refine wm_loop (fun g : Nat => (((((Sl.empty.set 12 (.int .i64 g)).set 11 (.int .i64 l.length)).set 10 (pl l)).set 3 (.ptr 0 0 0)).set 0 (pl l), [(0, ⟨.own, 3, [(rawOf (sumQ (l.take g))).c]⟩)]))
  (fun g => g ≤ l.length ∧ (∀ j, j < g → partAt l j = true) ∧ Fits (sumQ (l.take g)) (1 + g * 1000001)) (fun g => l.length - g) 0 ⟨by omega, fun j h => by omega, by simpa [sumQ] using fits_zero⟩ ?_ ?_
 ·refine weak_obs ?_ (by simp [sumQ]) (by repeat (first | exact sin_empty | refine sin_set (by simp) ?_)) (by simp; exact fun y hy => rawc_within _ y hy)
  repeat (first | exact sub_empty | refine sub_set (by simp) ?_)
 rintro i ⟨hi, hb, hf⟩
 by_cases h1 : i < l.length
 ·have okp := ho l[i] (List.getElem_mem h1)
  have okw : l[i].w.Ok (2 ^ 33) := ⟨okp.w.dn, okp.w.dd, Nat.le_trans okp.w.ln (by omega), Nat.le_trans okp.w.ld (by omega)⟩
  have hpa := partAt_eq h1
  have bad : partAt l i = false → (List.range l.length).all (partAt l) = false := fun h => by
   rw [List.all_eq_false]; exact ⟨i, by simpa using h1, by simp [h]⟩
  simp [h1, setOb, List.filter_cons]
  refine callFK_of (value_Right okp.v) (by simp [toD_cells]) ?_
  have add : ∀ {S : Sl} {σ : Sto} {rest : List MOper} {d : Option Nat} {Q : Sl → Sto → Prop}, (∀ r, r = V.agg (rawOf (sumQ (l.take (i + 1)))).c → Nxt Tryz.prog rest d S Q r (behind σ [.agg (rawOf (sumQ (l.take i))).c, .agg l[i].w.c] r)) → CallK Tryz.prog F.ratio_Add [.agg (rawOf (sumQ (l.take i))).c, .agg l[i].w.c] σ rest d S Q := by
   intro S σ rest d Q h
   refine callK_of (ratio_Add (rawOf_ok (hf.mono (by omega))) ⟨okp.w.dn, okp.w.dd, Nat.le_trans okp.w.ln (by omega), Nat.le_trans okp.w.ld (by omega)⟩) (by simp [toD_rawc, raw_v]) ?_
   rw [rawOf_q, ← sumQ_take h1]
   exact h _ rfl
  have next : partAt l i = true → i + 1 ≤ l.length ∧ (∀ j, j < i + 1 → partAt l j = true) ∧ Fits (sumQ (l.take (i + 1))) (1 + (i + 1) * 1000001) := by
   intro h
   refine ⟨h1, fun j hj => ?_, ?_⟩
   ·by_cases e : j = i
    ·rw [e]; exact h
    ·exact hb j (by omega)
   ·rw [sumQ_take h1]
    exact (fits_add hf (Raw.fits okp.w (by omega))).mono (by omega)
  cases hv : rightT l[i].v with
  | false =>
    have := bad (by rw [hpa, hv]; rfl)
    simp [this]
  | true =>
  simp
  refine callFK_of (ratio_Right okw) (by simp [toD_rawc, raw_v]) ?_
  cases hr : l[i].w.right with
  | false =>
    have := bad (by rw [hpa, hv, hr]; rfl)
    simp [this]
  | true =>
  simp
  refine callFK_of (ratio_Sign okw) (by simp [toD_rawc, raw_v]) ?_
  by_cases hq : ¬ 0 < l[i].w.q
  ·have := bad (by rw [hpa]; simp [hq])
   have h2 := sgnR_pos_iff.2 hq
   simp [this, h2]
  have hq : 0 < l[i].w.q := by simpa using hq
  have h2 : ¬ sgnR l[i].w.q ≤ 0 := fun h => sgnR_pos_iff.1 h hq
  by_cases h0 : i = 0
  ·subst h0
   simp [h2]
   refine add ?_
   rintro r rfl
   simp [setOb, List.filter_cons]
   rw [wrap64 (by omega) (by omega)]
   refine ⟨1, next (by rw [hpa]; simp [hv, hr, hq]), by dsimp only; omega, ?_⟩
   refine weak_obs ?_ (by simp) (by repeat (first | exact sin_empty | refine sin_set (by simp) ?_)) (by simp; exact fun y hy => rawc_within _ y hy)
   repeat (first | exact sub_empty | refine sub_set (by simp) ?_)
  ·have h0' : (0 : Int) < i := by omega
   have h0'' : 0 < i := by omega
   have hi1 : i - 1 < l.length := by omega
   have okq := ho (l[i - 1]'hi1) (List.getElem_mem hi1)
   have e1 : ((i : Int) - 1).toNat = i - 1 := by omega
   simp [h2, h0, h0', h0'']
   repeat simp (disch := omega) [wrap64, if_pos, e1]
   refine callFK_of (value_Compare okq.v okp.v) (by simp [toD_cells]) ?_
   by_cases hc : cmpT (l[i - 1]'hi1).v l[i].v < 0
   ·have hc' : ¬ 0 ≤ cmpT (l[i - 1]'hi1).v l[i].v := by omega
    simp [hc, hc']
    refine add ?_
    rintro r rfl
    simp [setOb, List.filter_cons]
    rw [wrap64 (by omega) (by omega)]
    refine ⟨i + 1, next (by rw [hpa]; simp [hv, hr, hq, h0'', hc]), by dsimp only; omega, ?_⟩
    refine weak_obs ?_ (by simp) (by repeat (first | exact sin_empty | refine sin_set (by simp) ?_)) (by simp; exact fun y hy => rawc_within _ y hy)
    repeat (first | exact sub_empty | refine sub_set (by simp) ?_)
   ·have hc' : 0 ≤ cmpT (l[i - 1]'hi1).v l[i].v := by omega
    have := bad (by rw [hpa]; simp [h0, h0'', hc])
    simp [this, hc']
 ·have hil : i = l.length := by omega
  subst hil
  have hall : (List.range l.length).all (partAt l) = true := by
   rw [List.all_eq_true]; intro j hj; exact hb j (by simpa using hj)
  simp [h1]
  refine callFK_of ratio_One (by simp) ?_
  simp [ratV, raw_v]
  refine callFK_of (ratio_Same (rawOf_ok (hf.mono (by omega))) (rawOf_ok (fits_one.mono (by omega)))) (by simp [toD_rawc, raw_v]) ?_
  simp [rawOf_q, hall]
set_option maxHeartbeats 4000000 in
theorem ref35_Right {l : List Part} (hl : l.length < 9223372036854775808) (ho : ∀ p ∈ l, p.Ok 1000000) : CallD Tryz.prog F.ref35_Right [pl l] (· = .bool (rightP l)) := by
 refine callD_by F.ref35_Right_ok ?_
 unfold F.ref35_Right_c rightP
 by_cases h60 : ¬ l.length ≤ 60
 ·have h60' : (60 : Int) < l.length := by omega
  simp [h60, h60']
 have h60 : l.length ≤ 60 := by omega
 have h60' : ¬ (60 : Int) < l.length := by omega
 simp [h60, h60']
 refine callK_of ref02_Zero (by simp) ?_
 simp [setOb, List.filter_cons, ratV, raw_v]
 refine wm_loop (fun g : Nat => (((((Sl.empty.set 12 (.int .i64 g)).set 11 (.int .i64 l.length)).set 10 (pl l)).set 3 (.ptr 0 0 0)).set 0 (pl l), [(0, ⟨.own, 3, [(rawOf (sumQ (l.take g))).c]⟩)]))
  (fun g => g ≤ l.length ∧ (∀ j, j < g → partAt l j = true) ∧ Fits (sumQ (l.take g)) (1 + g * 1000001)) (fun g => l.length - g) 0 ⟨by omega, fun j h => by omega, by simpa [sumQ] using fits_zero⟩ ?_ ?_
 ·refine weak_obs ?_ (by simp [sumQ]) (by repeat (first | exact sin_empty | refine sin_set (by simp) ?_)) (by simp; exact fun y hy => rawc_within _ y hy)
  repeat (first | exact sub_empty | refine sub_set (by simp) ?_)
 rintro i ⟨hi, hb, hf⟩
 by_cases h1 : i < l.length
 ·have okp := ho l[i] (List.getElem_mem h1)
  have okw : l[i].w.Ok (2 ^ 33) := ⟨okp.w.dn, okp.w.dd, Nat.le_trans okp.w.ln (by omega), Nat.le_trans okp.w.ld (by omega)⟩
  have hpa := partAt_eq h1
  have bad : partAt l i = false → (List.range l.length).all (partAt l) = false := fun h => by
   rw [List.all_eq_false]; exact ⟨i, by simpa using h1, by simp [h]⟩
  simp [h1, setOb, List.filter_cons]
  refine callFK_of (ref03_Right okp.v) (by simp [toD_cells]) ?_
  have add : ∀ {S : Sl} {σ : Sto} {rest : List MOper} {d : Option Nat} {Q : Sl → Sto → Prop}, (∀ r, r = V.agg (rawOf (sumQ (l.take (i + 1)))).c → Nxt Tryz.prog rest d S Q r (behind σ [.agg (rawOf (sumQ (l.take i))).c, .agg l[i].w.c] r)) → CallK Tryz.prog F.ref02_Add [.agg (rawOf (sumQ (l.take i))).c, .agg l[i].w.c] σ rest d S Q := by
   intro S σ rest d Q h
   refine callK_of (ref02_Add (rawOf_ok (hf.mono (by omega))) ⟨okp.w.dn, okp.w.dd, Nat.le_trans okp.w.ln (by omega), Nat.le_trans okp.w.ld (by omega)⟩) (by simp [toD_rawc, raw_v]) ?_
   rw [rawOf_q, ← sumQ_take h1]
   exact h _ rfl
  have next : partAt l i = true → i + 1 ≤ l.length ∧ (∀ j, j < i + 1 → partAt l j = true) ∧ Fits (sumQ (l.take (i + 1))) (1 + (i + 1) * 1000001) := by
   intro h
   refine ⟨h1, fun j hj => ?_, ?_⟩
   ·by_cases e : j = i
    ·rw [e]; exact h
    ·exact hb j (by omega)
   ·rw [sumQ_take h1]
    exact (fits_add hf (Raw.fits okp.w (by omega))).mono (by omega)
  cases hv : rightT l[i].v with
  | false =>
    have := bad (by rw [hpa, hv]; rfl)
    simp [this]
  | true =>
  simp
  refine callFK_of (ref02_Right okw) (by simp [toD_rawc, raw_v]) ?_
  cases hr : l[i].w.right with
  | false =>
    have := bad (by rw [hpa, hv, hr]; rfl)
    simp [this]
  | true =>
  simp
  refine callFK_of (ref02_Sign okw) (by simp [toD_rawc, raw_v]) ?_
  by_cases hq : ¬ 0 < l[i].w.q
  ·have := bad (by rw [hpa]; simp [hq])
   have h2 := sgnR_pos_iff.2 hq
   simp [this, h2]
  have hq : 0 < l[i].w.q := by simpa using hq
  have h2 : ¬ sgnR l[i].w.q ≤ 0 := fun h => sgnR_pos_iff.1 h hq
  by_cases h0 : i = 0
  ·subst h0
   simp [h2]
   refine add ?_
   rintro r rfl
   simp [setOb, List.filter_cons]
   rw [wrap64 (by omega) (by omega)]
   refine ⟨1, next (by rw [hpa]; simp [hv, hr, hq]), by dsimp only; omega, ?_⟩
   refine weak_obs ?_ (by simp) (by repeat (first | exact sin_empty | refine sin_set (by simp) ?_)) (by simp; exact fun y hy => rawc_within _ y hy)
   repeat (first | exact sub_empty | refine sub_set (by simp) ?_)
  ·have h0' : (0 : Int) < i := by omega
   have h0'' : 0 < i := by omega
   have hi1 : i - 1 < l.length := by omega
   have okq := ho (l[i - 1]'hi1) (List.getElem_mem hi1)
   have e1 : ((i : Int) - 1).toNat = i - 1 := by omega
   simp [h2, h0, h0', h0'']
   repeat simp (disch := omega) [wrap64, if_pos, e1]
   refine callFK_of (ref03_Compare okq.v okp.v) (by simp [toD_cells]) ?_
   by_cases hc : cmpT (l[i - 1]'hi1).v l[i].v < 0
   ·have hc' : ¬ 0 ≤ cmpT (l[i - 1]'hi1).v l[i].v := by omega
    simp [hc, hc']
    refine add ?_
    rintro r rfl
    simp [setOb, List.filter_cons]
    rw [wrap64 (by omega) (by omega)]
    refine ⟨i + 1, next (by rw [hpa]; simp [hv, hr, hq, h0'', hc]), by dsimp only; omega, ?_⟩
    refine weak_obs ?_ (by simp) (by repeat (first | exact sin_empty | refine sin_set (by simp) ?_)) (by simp; exact fun y hy => rawc_within _ y hy)
    repeat (first | exact sub_empty | refine sub_set (by simp) ?_)
   ·have hc' : 0 ≤ cmpT (l[i - 1]'hi1).v l[i].v := by omega
    have := bad (by rw [hpa]; simp [h0, h0'', hc])
    simp [this, hc']
 ·have hil : i = l.length := by omega
  subst hil
  have hall : (List.range l.length).all (partAt l) = true := by
   rw [List.all_eq_true]; intro j hj; exact hb j (by simpa using hj)
  simp [h1]
  refine callFK_of ref02_One (by simp) ?_
  simp [ratV, raw_v]
  refine callFK_of (ref02_Same (rawOf_ok (hf.mono (by omega))) (rawOf_ok (fits_one.mono (by omega)))) (by simp [toD_rawc, raw_v]) ?_
  simp [rawOf_q, hall]
structure Pr where
 A : Int
 B : Int
 w : Raw
def prC (p : Pr) : List V := .int .i64 p.A :: .int .i64 p.B :: p.w.c
@[simp] theorem prC_length (p : Pr) : (prC p).length = 5 := rfl
@[simp] theorem prC_take5 (p : Pr) : (prC p).take 5 = prC p := rfl
@[simp] theorem prC_drop2 (p : Pr) : (prC p).drop 2 = p.w.c := rfl
@[simp] theorem prC_0 (p : Pr) : (prC p)[0]? = some (.int .i64 p.A) := rfl
@[simp] theorem prC_1 (p : Pr) : (prC p)[1]? = some (.int .i64 p.B) := rfl
def sumS (f : Pr → Int) (ps : List Pr) (i : Int) : Rat := ps.foldl (fun s p => if f p = i then s + p.w.q else s) 0
def wq (l : List Part) (i : Nat) : Rat := match l[i]? with | some p => p.w.q | none => 0
def left (l : List Part) (f : Pr → Int) (ps : List Pr) (i : Nat) : Rat := wq l i - sumS f ps i
def Pr.Ok (p : Pr) (k : Nat) : Prop := p.w.Ok k
end Go.Proofs.YtipbefckimdkkaaGreat
