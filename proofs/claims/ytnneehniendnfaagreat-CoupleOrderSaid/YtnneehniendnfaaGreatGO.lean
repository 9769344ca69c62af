/- Joined texts: CCou1, CCou2, DP. -/
import Derived.Test.YtnneehniendnfaaGreatGN
import Derived.Test.YtnneehniendnfaaGreatGL
import Derived.Test.YtnneehniendnfaaGreatGC
import Derived.Test.YtnneehniendnfaaGreatProg
import Derived.KernelRfl
/- Functions of the program, as the engine reads them; each is held against the translation. -/
namespace Go.Proofs.YtnneehniendnfaaGreat.F
open Go Go.Proofs Go.Proofs.YtnneehniendnfaaGreat.E Go.Proofs.YtnneehniendnfaaGreat.Q
abbrev couple_Right : Nat := 14
def couple_Right_c : MFn :=
  ⟨57,(.seq (r [o 2 (.mv (.c (.bool false)))] [0]) (.seq (.seq (r [o 6 (.mv (.t 0)),o 7 (.lenS (.t 6)),o 8 (.bin .gtr (.t 7) (i 60))] [0,8]) (.cond (.t 8) (.seq (r [o 2 (.mv (.c (.bool false)))] [2])
  .ret) .skip)) (.seq (r [o 9 (.call 41 []),o 3 (.alloc [.bool false,.nils,.nils]),z (.st 3 (.t 3) (.t 9))] [0,3]) (.seq (.seq (r [o 10 (.mv (.t 0)),o 11 (.lenS (.t 10)),o 12 (.mv (i 0))] [0,3,10,11,
  12]) (.block 0 (.loop (.seq (r [o 13 (.bin .lss (.t 12) (.t 11))] [0,3,10,11,12,13]) (.seq (.cond (.t 13) .skip (.exit 0)) (.seq (.block 1 (.seq (r [o 14 (.mv (.t 12)),o 15 (.ixA 6 (.t 10) (.t 12)),
  o 16 (.ld (some 6) (.t 15)),o 5 (.alloc [.int .i64 0,.int .i64 0,.nils,.bool false,.nils,.nils]),o 4 (.mv (.t 14)),z (.st 6 (.t 5) (.t 16))] [0,3,4,5,10,11,12]) (.seq (.seq (r [o 17 (.fA 0 (.t 5)),
  o 18 (.ld (some 3) (.t 17)),o 19 (.callF 42 [(.t 18)]),o 20 (.un .not (.t 19)),o 21 (.mv (.t 20)),n 22 21 (.fA 3 (.t 5)),n 23 21 (.ld (some 3) (.t 22)),n 24 21 (.callF 43 [(.t 23)]),
  n 25 21 (.un .not (.t 24)),o 26 (.pick (.t 21) (.c (.bool true)) (.t 25)),o 27 (.mv (.t 26)),n 28 27 (.fA 3 (.t 5)),n 29 27 (.ld (some 3) (.t 28)),n 30 27 (.callF 44 [(.t 29)]),
  n 31 27 (.bin .leq (.t 30) (i 0)),o 32 (.pick (.t 27) (.c (.bool true)) (.t 31)),o 33 (.mv (.t 32)),n 34 33 (.mv (.t 4)),n 35 33 (.bin .gtr (.t 34) (i 0)),n 36 33 (.mv (.t 35)),y 37 36 (.mv (.t 0)),
  y 38 36 (.mv (.t 4)),y 39 36 (.bin .sub (.t 38) (i 1)),y 40 36 (.ixA 6 (.t 37) (.t 39)),y 41 36 (.fA 0 (.t 40)),y 42 36 (.ld (some 3) (.t 41)),y 43 36 (.fA 0 (.t 5)),y 44 36 (.ld (some 3) (.t 43)),
  y 45 36 (.callF 45 [(.t 42),(.t 44)]),y 46 36 (.bin .geq (.t 45) (i 0)),n 47 33 (.pick (.t 36) (.t 46) (.c (.bool false))),o 48 (.pick (.t 33) (.c (.bool true)) (.t 47))] [0,3,5,10,11,12,48])
  (.cond (.t 48) (.seq (r [o 2 (.mv (.c (.bool false)))] [2]) .ret) .skip)) (r [o 49 (.ld (some 3) (.t 3)),o 50 (.fA 3 (.t 5)),o 51 (.ld (some 3) (.t 50)),o 52 (.call 46 [(.t 49),(.t 51)]),
  z (.st 3 (.t 3) (.t 52))] [0,3,10,11,12])))) (r [o 53 (.bin .add (.t 12) (i 1)),o 12 (.mv (.t 53))] [0,3,10,11,12]))))))) (.seq (r [o 54 (.ld (some 3) (.t 3)),o 55 (.callF 48 []),
  o 56 (.callF 47 [(.t 54),(.t 55)]),o 2 (.mv (.t 56))] [2]) .ret))))),[.t 2]⟩
theorem couple_Right_ok : cFn Tryz.prog (kps [[0],[0,8],[2],[0,3],[0,3,10,11,12],[0,3,10,11,12,13],[0,3,4,5,10,11,12],[0,3,5,10,11,12,48],[2],[0,3,10,11,12],[0,3,10,11,12],[2]]) [] 14 = some couple_Right_c := by kernel_rfl
abbrev ref35_Right : Nat := 15
def ref35_Right_c : MFn :=
  ⟨57,(.seq (r [o 2 (.mv (.c (.bool false)))] [0]) (.seq (.seq (r [o 6 (.mv (.t 0)),o 7 (.lenS (.t 6)),o 8 (.bin .gtr (.t 7) (i 60))] [0,8]) (.cond (.t 8) (.seq (r [o 2 (.mv (.c (.bool false)))] [2])
  .ret) .skip)) (.seq (r [o 9 (.call 29 []),o 3 (.alloc [.bool false,.nils,.nils]),z (.st 3 (.t 3) (.t 9))] [0,3]) (.seq (.seq (r [o 10 (.mv (.t 0)),o 11 (.lenS (.t 10)),o 12 (.mv (i 0))] [0,3,10,11,
  12]) (.block 0 (.loop (.seq (r [o 13 (.bin .lss (.t 12) (.t 11))] [0,3,10,11,12,13]) (.seq (.cond (.t 13) .skip (.exit 0)) (.seq (.block 1 (.seq (r [o 14 (.mv (.t 12)),o 15 (.ixA 6 (.t 10) (.t 12)),
  o 16 (.ld (some 6) (.t 15)),o 5 (.alloc [.int .i64 0,.int .i64 0,.nils,.bool false,.nils,.nils]),o 4 (.mv (.t 14)),z (.st 6 (.t 5) (.t 16))] [0,3,4,5,10,11,12]) (.seq (.seq (r [o 17 (.fA 0 (.t 5)),
  o 18 (.ld (some 3) (.t 17)),o 19 (.callF 49 [(.t 18)]),o 20 (.un .not (.t 19)),o 21 (.mv (.t 20)),n 22 21 (.fA 3 (.t 5)),n 23 21 (.ld (some 3) (.t 22)),n 24 21 (.callF 50 [(.t 23)]),
  n 25 21 (.un .not (.t 24)),o 26 (.pick (.t 21) (.c (.bool true)) (.t 25)),o 27 (.mv (.t 26)),n 28 27 (.fA 3 (.t 5)),n 29 27 (.ld (some 3) (.t 28)),n 30 27 (.callF 51 [(.t 29)]),
  n 31 27 (.bin .leq (.t 30) (i 0)),o 32 (.pick (.t 27) (.c (.bool true)) (.t 31)),o 33 (.mv (.t 32)),n 34 33 (.mv (.t 4)),n 35 33 (.bin .gtr (.t 34) (i 0)),n 36 33 (.mv (.t 35)),y 37 36 (.mv (.t 0)),
  y 38 36 (.mv (.t 4)),y 39 36 (.bin .sub (.t 38) (i 1)),y 40 36 (.ixA 6 (.t 37) (.t 39)),y 41 36 (.fA 0 (.t 40)),y 42 36 (.ld (some 3) (.t 41)),y 43 36 (.fA 0 (.t 5)),y 44 36 (.ld (some 3) (.t 43)),
  y 45 36 (.callF 52 [(.t 42),(.t 44)]),y 46 36 (.bin .geq (.t 45) (i 0)),n 47 33 (.pick (.t 36) (.t 46) (.c (.bool false))),o 48 (.pick (.t 33) (.c (.bool true)) (.t 47))] [0,3,5,10,11,12,48])
  (.cond (.t 48) (.seq (r [o 2 (.mv (.c (.bool false)))] [2]) .ret) .skip)) (r [o 49 (.ld (some 3) (.t 3)),o 50 (.fA 3 (.t 5)),o 51 (.ld (some 3) (.t 50)),o 52 (.call 30 [(.t 49),(.t 51)]),
  z (.st 3 (.t 3) (.t 52))] [0,3,10,11,12])))) (r [o 53 (.bin .add (.t 12) (i 1)),o 12 (.mv (.t 53))] [0,3,10,11,12]))))))) (.seq (r [o 54 (.ld (some 3) (.t 3)),o 55 (.callF 53 []),
  o 56 (.callF 24 [(.t 54),(.t 55)]),o 2 (.mv (.t 56))] [2]) .ret))))),[.t 2]⟩
theorem ref35_Right_ok : cFn Tryz.prog (kps [[0],[0,8],[2],[0,3],[0,3,10,11,12],[0,3,10,11,12,13],[0,3,4,5,10,11,12],[0,3,5,10,11,12,48],[2],[0,3,10,11,12],[0,3,10,11,12],[2]]) [] 15 = some ref35_Right_c := by kernel_rfl
abbrev couple_weights : Nat := 54
def couple_weights_c : MFn :=
  ⟨21,(.seq (r [o 2 (.mv (.c .nils))] [0]) (.seq (r [o 3 (.mv (.c .nils))] [0,3]) (.seq (.seq (r [o 6 (.mv (.t 0)),o 7 (.lenS (.t 6)),o 8 (.mv (i 0))] [3,6,7,8])
  (.block 0 (.loop (.seq (r [o 9 (.bin .lss (.t 8) (.t 7))] [3,6,7,8,9]) (.seq (.cond (.t 9) .skip (.exit 0)) (.seq (.block 1 (.seq (r [o 10 (.ixA 6 (.t 6) (.t 8)),o 11 (.ld (some 6) (.t 10)),
  o 5 (.alloc [.int .i64 0,.int .i64 0,.nils,.bool false,.nils,.nils]),z (.st 6 (.t 5) (.t 11))] [3,5,6,7,8]) (r [o 12 (.mv (.t 3)),o 13 (.fA 3 (.t 5)),o 14 (.ld (some 3) (.t 13)),o 15 (.callF 41 []),
  o 16 (.callF 46 [(.t 14),(.t 15)]),o 17 (.buildSl 3 1 [.bool false,.nils,.nils] [(0,(.t 16))]),o 18 (.app 3 56 (.t 12) (.t 17)),o 3 (.mv (.t 18))] [3,6,7,8]))) (r [o 19 (.bin .add (.t 8) (i 1)),
  o 8 (.mv (.t 19))] [3,6,7,8]))))))) (.seq (r [o 20 (.mv (.t 3)),o 2 (.mv (.t 20))] [2]) .ret)))),[.t 2]⟩
theorem couple_weights_ok : cFn Tryz.prog (kps [[0],[0,3],[3,6,7,8],[3,6,7,8,9],[3,5,6,7,8],[3,6,7,8],[3,6,7,8],[2]]) [] 54 = some couple_weights_c := by kernel_rfl
abbrev slices_IndexFunc_Ratio_Ratio : Nat := 110
def slices_IndexFunc_Ratio_Ratio_c : MFn :=
  ⟨19,(.seq (r [o 4 (.mv (i 0))] [0,1]) (.seq (.seq (r [o 6 (.mv (.t 0)),o 7 (.lenS (.t 6)),o 8 (.mv (i 0))] [0,1,7,8]) (.block 0 (.loop (.seq (r [o 9 (.bin .lss (.t 8) (.t 7))] [0,1,7,8,9])
  (.seq (.cond (.t 9) .skip (.exit 0)) (.seq (.block 1 (.seq (r [o 10 (.mv (.t 8)),o 5 (.mv (.t 10))] [0,1,5,7,8]) (.seq (r [o 11 (.mv (.t 1)),o 12 (.mv (.t 0)),o 13 (.mv (.t 5)),o 14 (.ixA 3 (.t 12)
  (.t 13)),o 15 (.ld (some 3) (.t 14)),o 16 (.callV (.t 11) [(.t 15)])] [0,1,5,7,8,16]) (.cond (.t 16) (.seq (r [o 17 (.mv (.t 5)),o 4 (.mv (.t 17))] [4]) .ret) .skip)))) (r [o 18 (.bin .add (.t 8)
  (i 1)),o 8 (.mv (.t 18))] [0,1,7,8]))))))) (.seq (r [o 4 (.mv (i (-1)))] [4]) .ret))),[.t 4]⟩
theorem slices_IndexFunc_Ratio_Ratio_ok : cFn Tryz.prog (kps [[0,1],[0,1,7,8],[0,1,7,8,9],[0,1,5,7,8],[0,1,5,7,8,16],[4],[0,1,7,8],[4]]) [] 110 = some slices_IndexFunc_Ratio_Ratio_c := by kernel_rfl
abbrev slices_ContainsFunc_Ratio_Ratio : Nat := 57
def slices_ContainsFunc_Ratio_Ratio_c : MFn :=
  ⟨9,(.seq (r [o 4 (.mv (.c (.bool false)))] [0,1]) (.seq (r [o 5 (.mv (.t 0)),o 6 (.mv (.t 1)),o 7 (.call 110 [(.t 5),(.t 6)]),o 8 (.bin .geq (.t 7) (i 0)),o 4 (.mv (.t 8))] [4]) .ret)),[.t 4]⟩
theorem slices_ContainsFunc_Ratio_Ratio_ok : cFn Tryz.prog (kps [[0,1],[4]]) [] 57 = some slices_ContainsFunc_Ratio_Ratio_c := by kernel_rfl
abbrev couple_Couples_1 : Nat := 58
def couple_Couples_1_c : MFn :=
  ⟨7,(.seq (r [o 1 (.box (.t 0)),o 2 (.mv (.c (.bool false)))] [1]) (.seq (r [o 3 (.fA 1 (.t 1)),o 4 (.ld none (.t 3)),o 5 (.lenS (.t 4)),o 6 (.bin .gtr (.t 5) (i 0)),o 2 (.mv (.t 6))] [2]) .ret)),
  [.t 2]⟩
theorem couple_Couples_1_ok : cFn Tryz.prog (kps [[1],[2]]) [] 58 = some couple_Couples_1_c := by kernel_rfl
end Go.Proofs.YtnneehniendnfaaGreat.F

namespace Go.Proofs.YtnneehniendnfaaGreat
open Go Go.Proofs Go.Proofs.YtnneehniendnfaaGreat.E
set_option linter.unusedSimpArgs false
set_option linter.unusedVariables false
structure Part where
  v : Tr
  w : Raw
def E.Raw.c (x : Raw) : List V := [.bool x.neg, nat x.num, nat x.den]
theorem raw_v (x : Raw) : x.v = .agg x.c := rfl
@[simp] theorem rawc_length (x : Raw) : x.c.length = 3 := rfl
@[simp] theorem rch_rawc (σ : Sto) (n : Nat) (x : Raw) : x.c.flatMap (rch σ n) = [] := by simp [Raw.c]
theorem toD_rawc (σ : Sto) (n : Nat) (x : Raw) : mapO (toD σ (n + 1)) x.c = some x.c := by simp [Raw.c]
theorem rawc_within {p : Nat → Bool} (x : Raw) : ∀ y ∈ x.c, y.within p = true := by
  intro y hy; simp [Raw.c] at hy; rcases hy with rfl | rfl | rfl <;> simp
def partC (p : Part) : List V := p.v.cells ++ p.w.c
@[simp] theorem partC_length (p : Part) : (partC p).length = 6 := by simp [partC]
@[simp] theorem partC_take6 (p : Part) : (partC p).take 6 = partC p := List.take_of_length_le (by simp)
@[simp] theorem partC_take3 (p : Part) : (partC p).take 3 = p.v.cells := by simp [partC, List.take_append]
@[simp] theorem partC_drop3 (p : Part) : (partC p).drop 3 = p.w.c := by simp [partC, List.drop_append]
@[simp] theorem rawc_take3 (x : Raw) : x.c.take 3 = x.c := rfl
@[simp] theorem rawc_drop3 (x : Raw) : x.c.drop 3 = [] := rfl
abbrev pl (l : List Part) : V := .dat (l.map partC)
structure Part.Ok (p : Part) (k : Nat) : Prop where
  v : p.v.Ok
  w : p.w.Ok k
def sumQ (l : List Part) : Rat := l.foldl (fun s p => s + p.w.q) 0
theorem sumQ_snoc (l : List Part) (p : Part) : sumQ (l ++ [p]) = sumQ l + p.w.q := by simp [sumQ, List.foldl_append]
theorem sumQ_take {l : List Part} {i : Nat} (h : i < l.length) : sumQ (l.take (i + 1)) = sumQ (l.take i) + l[i].w.q := by
  rw [List.take_succ_eq_append_getElem h, sumQ_snoc]
def partAt (l : List Part) (i : Nat) : Bool :=
  match l[i]? with
  | some p => rightT p.v && p.w.right && decide (0 < p.w.q) && (decide (i = 0) || (match l[i - 1]? with | some q => decide (cmpT q.v p.v < 0) | none => false))
  | none => true
def rightP (l : List Part) : Bool := decide (l.length ≤ 60) && (List.range l.length).all (partAt l) && decide (sumQ l = 1)
theorem sgnR_pos_iff {a : Rat} : sgnR a ≤ 0 ↔ ¬ 0 < a := by
  unfold sgnR; rw [cmpR_le]; grind
theorem partAt_eq {l : List Part} {i : Nat} (h : i < l.length) : partAt l i = (rightT l[i].v && l[i].w.right && decide (0 < l[i].w.q) && (decide (i = 0) || (if h0 : 0 < i then decide (cmpT (l[i - 1]'(by omega)).v l[i].v < 0) else false))) := by
  unfold partAt
  rw [List.getElem?_eq_getElem h]
  simp only
  by_cases h0 : i = 0
  · simp [h0]
  · rw [List.getElem?_eq_getElem (show i - 1 < l.length by omega), dif_pos (by omega)]
set_option maxHeartbeats 4000000 in
theorem couple_Right {l : List Part} (hl : l.length < 9223372036854775808) (ho : ∀ p ∈ l, p.Ok 1000000) : CallD Tryz.prog F.couple_Right [pl l] (· = .bool (rightP l)) := by
  refine callD_by F.couple_Right_ok ?_
  unfold F.couple_Right_c rightP
  by_cases h60 : ¬ l.length ≤ 60
  · have h60' : (60 : Int) < l.length := by omega
    simp [h60, h60']
  have h60 : l.length ≤ 60 := by omega
  have h60' : ¬ (60 : Int) < l.length := by omega
  simp [h60, h60']
  refine callK_of ratio_Zero (by simp) ?_
  simp [setOb, List.filter_cons, ratV, raw_v]
  refine wm_loop (fun g : Nat => (((((Sl.empty.set 12 (.int .i64 g)).set 11 (.int .i64 l.length)).set 10 (pl l)).set 3 (.ptr 0 0 0)).set 0 (pl l), [(0, ⟨.own, 3, [(rawOf (sumQ (l.take g))).c]⟩)]))
    (fun g => g ≤ l.length ∧ (∀ j, j < g → partAt l j = true) ∧ Fits (sumQ (l.take g)) (1 + g * 1000001)) (fun g => l.length - g) 0 ⟨by omega, fun j h => by omega, by simpa [sumQ] using fits_zero⟩ ?_ ?_
  · refine weak_obs ?_ (by simp [sumQ]) (by repeat (first | exact sin_empty | refine sin_set (by simp) ?_)) (by simp; exact fun y hy => rawc_within _ y hy)
    repeat (first | exact sub_empty | refine sub_set (by simp) ?_)
  rintro i ⟨hi, hb, hf⟩
  by_cases h1 : i < l.length
  · have okp := ho l[i] (List.getElem_mem h1)
    have okw : l[i].w.Ok (2 ^ 33) := ⟨okp.w.dn, okp.w.dd, Nat.le_trans okp.w.ln (by omega), Nat.le_trans okp.w.ld (by omega)⟩
    have hpa := partAt_eq h1
    have bad : partAt l i = false → (List.range l.length).all (partAt l) = false := fun h => by
      rw [List.all_eq_false]; exact ⟨i, by simpa using h1, by simp [h]⟩
    simp [h1, setOb, List.filter_cons]
    refine callFK_of (value_Right okp.v) (by simp [toD_cells]) ?_
    have add : ∀ {S : Sl} {σ : Sto} {rest : List MOper} {d : Option Nat} {Q : Sl → Sto → Prop}, (∀ r, r = V.agg (rawOf (sumQ (l.take (i + 1)))).c → Nxt Tryz.prog rest d S Q r (behind σ [.agg (rawOf (sumQ (l.take i))).c, .agg l[i].w.c] r)) → CallK Tryz.prog F.ratio_Add [.agg (rawOf (sumQ (l.take i))).c, .agg l[i].w.c] σ rest d S Q := by
      intro S σ rest d Q h
      refine callK_of (ratio_Add (rawOf_ok (hf.mono (by omega))) ⟨okp.w.dn, okp.w.dd, Nat.le_trans okp.w.ln (by omega), Nat.le_trans okp.w.ld (by omega)⟩) (by simp [toD_rawc, raw_v]) ?_
      rw [rawOf_q, ← sumQ_take h1]
      exact h _ rfl
    have next : partAt l i = true → i + 1 ≤ l.length ∧ (∀ j, j < i + 1 → partAt l j = true) ∧ Fits (sumQ (l.take (i + 1))) (1 + (i + 1) * 1000001) := by
      intro h
      refine ⟨h1, fun j hj => ?_, ?_⟩
      · by_cases e : j = i
        · rw [e]; exact h
        · exact hb j (by omega)
      · rw [sumQ_take h1]
        exact (fits_add hf (Raw.fits okp.w (by omega))).mono (by omega)
    cases hv : rightT l[i].v with
    | false =>
      have := bad (by rw [hpa, hv]; rfl)
      simp [this]
    | true =>
    simp
    refine callFK_of (ratio_Right okw) (by simp [toD_rawc, raw_v]) ?_
    cases hr : l[i].w.right with
    | false =>
      have := bad (by rw [hpa, hv, hr]; rfl)
      simp [this]
    | true =>
    simp
    refine callFK_of (ratio_Sign okw) (by simp [toD_rawc, raw_v]) ?_
    by_cases hq : ¬ 0 < l[i].w.q
    · have := bad (by rw [hpa]; simp [hq])
      have h2 := sgnR_pos_iff.2 hq
      simp [this, h2]
    have hq : 0 < l[i].w.q := by simpa using hq
    have h2 : ¬ sgnR l[i].w.q ≤ 0 := fun h => sgnR_pos_iff.1 h hq
    by_cases h0 : i = 0
    · subst h0
      simp [h2]
      refine add ?_
      rintro r rfl
      simp [setOb, List.filter_cons]
      rw [wrap64 (by omega) (by omega)]
      refine ⟨1, next (by rw [hpa]; simp [hv, hr, hq]), by dsimp only; omega, ?_⟩
      refine weak_obs ?_ (by simp) (by repeat (first | exact sin_empty | refine sin_set (by simp) ?_)) (by simp; exact fun y hy => rawc_within _ y hy)
      repeat (first | exact sub_empty | refine sub_set (by simp) ?_)
    · have h0' : (0 : Int) < i := by omega
      have h0'' : 0 < i := by omega
      have hi1 : i - 1 < l.length := by omega
      have okq := ho (l[i - 1]'hi1) (List.getElem_mem hi1)
      have e1 : ((i : Int) - 1).toNat = i - 1 := by omega
      simp [h2, h0, h0', h0'']
      repeat simp (disch := omega) [wrap64, if_pos, e1]
      refine callFK_of (value_Compare okq.v okp.v) (by simp [toD_cells]) ?_
      by_cases hc : cmpT (l[i - 1]'hi1).v l[i].v < 0
      · have hc' : ¬ 0 ≤ cmpT (l[i - 1]'hi1).v l[i].v := by omega
        simp [hc, hc']
        refine add ?_
        rintro r rfl
        simp [setOb, List.filter_cons]
        rw [wrap64 (by omega) (by omega)]
        refine ⟨i + 1, next (by rw [hpa]; simp [hv, hr, hq, h0'', hc]), by dsimp only; omega, ?_⟩
        refine weak_obs ?_ (by simp) (by repeat (first | exact sin_empty | refine sin_set (by simp) ?_)) (by simp; exact fun y hy => rawc_within _ y hy)
        repeat (first | exact sub_empty | refine sub_set (by simp) ?_)
      · have hc' : 0 ≤ cmpT (l[i - 1]'hi1).v l[i].v := by omega
        have := bad (by rw [hpa]; simp [h0, h0'', hc])
        simp [this, hc']
  · have hil : i = l.length := by omega
    subst hil
    have hall : (List.range l.length).all (partAt l) = true := by
      rw [List.all_eq_true]; intro j hj; exact hb j (by simpa using hj)
    simp [h1]
    refine callFK_of ratio_One (by simp) ?_
    simp [ratV, raw_v]
    refine callFK_of (ratio_Same (rawOf_ok (hf.mono (by omega))) (rawOf_ok (fits_one.mono (by omega)))) (by simp [toD_rawc, raw_v]) ?_
    simp [rawOf_q, hall]
set_option maxHeartbeats 4000000 in
theorem ref35_Right {l : List Part} (hl : l.length < 9223372036854775808) (ho : ∀ p ∈ l, p.Ok 1000000) : CallD Tryz.prog F.ref35_Right [pl l] (· = .bool (rightP l)) := by
  refine callD_by F.ref35_Right_ok ?_
  unfold F.ref35_Right_c rightP
  by_cases h60 : ¬ l.length ≤ 60
  · have h60' : (60 : Int) < l.length := by omega
    simp [h60, h60']
  have h60 : l.length ≤ 60 := by omega
  have h60' : ¬ (60 : Int) < l.length := by omega
  simp [h60, h60']
  refine callK_of ref02_Zero (by simp) ?_
  simp [setOb, List.filter_cons, ratV, raw_v]
  refine wm_loop (fun g : Nat => (((((Sl.empty.set 12 (.int .i64 g)).set 11 (.int .i64 l.length)).set 10 (pl l)).set 3 (.ptr 0 0 0)).set 0 (pl l), [(0, ⟨.own, 3, [(rawOf (sumQ (l.take g))).c]⟩)]))
    (fun g => g ≤ l.length ∧ (∀ j, j < g → partAt l j = true) ∧ Fits (sumQ (l.take g)) (1 + g * 1000001)) (fun g => l.length - g) 0 ⟨by omega, fun j h => by omega, by simpa [sumQ] using fits_zero⟩ ?_ ?_
  · refine weak_obs ?_ (by simp [sumQ]) (by repeat (first | exact sin_empty | refine sin_set (by simp) ?_)) (by simp; exact fun y hy => rawc_within _ y hy)
    repeat (first | exact sub_empty | refine sub_set (by simp) ?_)
  rintro i ⟨hi, hb, hf⟩
  by_cases h1 : i < l.length
  · have okp := ho l[i] (List.getElem_mem h1)
    have okw : l[i].w.Ok (2 ^ 33) := ⟨okp.w.dn, okp.w.dd, Nat.le_trans okp.w.ln (by omega), Nat.le_trans okp.w.ld (by omega)⟩
    have hpa := partAt_eq h1
    have bad : partAt l i = false → (List.range l.length).all (partAt l) = false := fun h => by
      rw [List.all_eq_false]; exact ⟨i, by simpa using h1, by simp [h]⟩
    simp [h1, setOb, List.filter_cons]
    refine callFK_of (ref03_Right okp.v) (by simp [toD_cells]) ?_
    have add : ∀ {S : Sl} {σ : Sto} {rest : List MOper} {d : Option Nat} {Q : Sl → Sto → Prop}, (∀ r, r = V.agg (rawOf (sumQ (l.take (i + 1)))).c → Nxt Tryz.prog rest d S Q r (behind σ [.agg (rawOf (sumQ (l.take i))).c, .agg l[i].w.c] r)) → CallK Tryz.prog F.ref02_Add [.agg (rawOf (sumQ (l.take i))).c, .agg l[i].w.c] σ rest d S Q := by
      intro S σ rest d Q h
      refine callK_of (ref02_Add (rawOf_ok (hf.mono (by omega))) ⟨okp.w.dn, okp.w.dd, Nat.le_trans okp.w.ln (by omega), Nat.le_trans okp.w.ld (by omega)⟩) (by simp [toD_rawc, raw_v]) ?_
      rw [rawOf_q, ← sumQ_take h1]
      exact h _ rfl
    have next : partAt l i = true → i + 1 ≤ l.length ∧ (∀ j, j < i + 1 → partAt l j = true) ∧ Fits (sumQ (l.take (i + 1))) (1 + (i + 1) * 1000001) := by
      intro h
      refine ⟨h1, fun j hj => ?_, ?_⟩
      · by_cases e : j = i
        · rw [e]; exact h
        · exact hb j (by omega)
      · rw [sumQ_take h1]
        exact (fits_add hf (Raw.fits okp.w (by omega))).mono (by omega)
    cases hv : rightT l[i].v with
    | false =>
      have := bad (by rw [hpa, hv]; rfl)
      simp [this]
    | true =>
    simp
    refine callFK_of (ref02_Right okw) (by simp [toD_rawc, raw_v]) ?_
    cases hr : l[i].w.right with
    | false =>
      have := bad (by rw [hpa, hv, hr]; rfl)
      simp [this]
    | true =>
    simp
    refine callFK_of (ref02_Sign okw) (by simp [toD_rawc, raw_v]) ?_
    by_cases hq : ¬ 0 < l[i].w.q
    · have := bad (by rw [hpa]; simp [hq])
      have h2 := sgnR_pos_iff.2 hq
      simp [this, h2]
    have hq : 0 < l[i].w.q := by simpa using hq
    have h2 : ¬ sgnR l[i].w.q ≤ 0 := fun h => sgnR_pos_iff.1 h hq
    by_cases h0 : i = 0
    · subst h0
      simp [h2]
      refine add ?_
      rintro r rfl
      simp [setOb, List.filter_cons]
      rw [wrap64 (by omega) (by omega)]
      refine ⟨1, next (by rw [hpa]; simp [hv, hr, hq]), by dsimp only; omega, ?_⟩
      refine weak_obs ?_ (by simp) (by repeat (first | exact sin_empty | refine sin_set (by simp) ?_)) (by simp; exact fun y hy => rawc_within _ y hy)
      repeat (first | exact sub_empty | refine sub_set (by simp) ?_)
    · have h0' : (0 : Int) < i := by omega
      have h0'' : 0 < i := by omega
      have hi1 : i - 1 < l.length := by omega
      have okq := ho (l[i - 1]'hi1) (List.getElem_mem hi1)
      have e1 : ((i : Int) - 1).toNat = i - 1 := by omega
      simp [h2, h0, h0', h0'']
      repeat simp (disch := omega) [wrap64, if_pos, e1]
      refine callFK_of (ref03_Compare okq.v okp.v) (by simp [toD_cells]) ?_
      by_cases hc : cmpT (l[i - 1]'hi1).v l[i].v < 0
      · have hc' : ¬ 0 ≤ cmpT (l[i - 1]'hi1).v l[i].v := by omega
        simp [hc, hc']
        refine add ?_
        rintro r rfl
        simp [setOb, List.filter_cons]
        rw [wrap64 (by omega) (by omega)]
        refine ⟨i + 1, next (by rw [hpa]; simp [hv, hr, hq, h0'', hc]), by dsimp only; omega, ?_⟩
        refine weak_obs ?_ (by simp) (by repeat (first | exact sin_empty | refine sin_set (by simp) ?_)) (by simp; exact fun y hy => rawc_within _ y hy)
        repeat (first | exact sub_empty | refine sub_set (by simp) ?_)
      · have hc' : 0 ≤ cmpT (l[i - 1]'hi1).v l[i].v := by omega
        have := bad (by rw [hpa]; simp [h0, h0'', hc])
        simp [this, hc']
  · have hil : i = l.length := by omega
    subst hil
    have hall : (List.range l.length).all (partAt l) = true := by
      rw [List.all_eq_true]; intro j hj; exact hb j (by simpa using hj)
    simp [h1]
    refine callFK_of ref02_One (by simp) ?_
    simp [ratV, raw_v]
    refine callFK_of (ref02_Same (rawOf_ok (hf.mono (by omega))) (rawOf_ok (fits_one.mono (by omega)))) (by simp [toD_rawc, raw_v]) ?_
    simp [rawOf_q, hall]
end Go.Proofs.YtnneehniendnfaaGreat

namespace Go.Proofs.YtnneehniendnfaaGreat
open Go Go.Proofs Go.Proofs.YtnneehniendnfaaGreat.E
set_option linter.unusedSimpArgs false
set_option linter.unusedVariables false
theorem E.doneX_new {rs : List MRes} {e : Ex} {S : Sl} {σ' : Sto} {l : List V} {o n es : Nat} {rows : List (List V)} (he : ∀ n, e ≠ .exit n) (h1 : resV S σ' rs = some l) (h2 : resOf l = grown o n) (h3 : n ≠ 0 → E.look σ' o = some ⟨.own, es, rows⟩) (hr : ∀ r ∈ rows, ∀ y ∈ r, ∀ p : Nat → Bool, y.within p = true) :
    DoneX [] rs (fun v s => ∃ o, v = grown o n ∧ s = grownS o es n rows) e S σ' := by
  refine ⟨he, l, grownS o es n rows, h1, ⟨fun p x hp => ?_, fun p hp => by simp at hp, ?_, fun p x hp hx r hr' y hy => ?_⟩, o, h2, rfl⟩
  · by_cases h0 : n = 0
    · subst h0; simp [grownS_zero, E.look] at hp
    · rw [grownS_pos h0] at hp; simp only [E.look] at hp
      split at hp
      · rename_i e; subst e; injection hp with hp; subst hp; exact h3 h0
      · simp at hp
  · rw [h2]
    by_cases h0 : n = 0
    · subst h0; simp [grown_zero]
    · rw [grown_pos h0, grownS_pos h0]; simp [V.within, E.look]
  · by_cases h0 : n = 0
    · subst h0; simp [grownS_zero, E.look] at hp
    · rw [grownS_pos h0] at hp; simp only [E.look] at hp
      split at hp
      · injection hp with hp; subst hp; exact hr r hr' y hy _
      · simp at hp
set_option maxHeartbeats 4000000 in
theorem couple_weights0 {l : List Part} (hl : l.length ≤ 1000000) (ho : ∀ p ∈ l, p.Ok 1000000) : CallX Tryz.prog F.couple_weights [pl l] [] (fun v s => ∃ o, v = grown o l.length ∧ s = grownS o 3 l.length (l.map fun p => (rawOf p.w.q).c)) := by
  refine callX_by F.couple_weights_ok ?_
  unfold F.couple_weights_c
  simp [setOb, List.filter_cons]
  refine wm_loop (fun g : Nat × Nat => ((((Sl.empty.set 8 (.int .i64 g.2)).set 7 (.int .i64 l.length)).set 6 (pl l)).set 3 (grown g.1 g.2), grownS g.1 3 g.2 ((l.map fun p => (rawOf p.w.q).c).take g.2)))
    (fun g => g.2 ≤ l.length) (fun g => l.length - g.2) (0, 0) (by simp) ?_ ?_
  · refine weak_obs ?_ (by simp [grown_zero, grownS_zero]) (by repeat (first | exact sin_empty | refine sin_set (by simp [grown_zero]) ?_)) (by simp [grown_zero, grownS_zero])
    simp only [grown_zero]
    repeat (first | exact sub_empty | refine sub_set (by simp) ?_)
  rintro ⟨o, i⟩ hi
  dsimp only at hi
  have hw : ∀ n, ∀ r ∈ List.take n (l.map fun p => (rawOf p.w.q).c), ∀ y ∈ r, ∀ p : Nat → Bool, y.within p = true := fun n r hr y hy p => by
    obtain ⟨x, _, rfl⟩ := List.mem_map.1 (List.mem_of_mem_take hr)
    exact rawc_within _ y hy
  by_cases h1 : i < l.length
  · have okp := ho l[i] (List.getElem_mem h1)
    have okw : l[i].w.Ok (2 ^ 31) := ⟨okp.w.dn, okp.w.dd, Nat.le_trans okp.w.ln (by omega), Nat.le_trans okp.w.ld (by omega)⟩
    have e1 : List.take (i + 1) (l.map fun p => (rawOf p.w.q).c) = List.take i (l.map fun p => (rawOf p.w.q).c) ++ [(rawOf l[i].w.q).c] := by
      rw [List.take_succ_eq_append_getElem (by simpa using h1)]; simp
    have zer : (rawOf 0).Ok (2 ^ 31) := rawOf_ok (fits_zero.mono (by omega))
    by_cases hi0 : i = 0
    · subst hi0
      simp at e1
      simp [h1, grown_zero, grownS_zero, setOb, List.filter_cons]
      refine callFK_of ratio_Zero (by simp) ?_
      simp [ratV, raw_v]
      refine callFK_of (ratio_Add okw zer) (by simp [toD_rawc, raw_v]) ?_
      simp [setOb, List.filter_cons, rawOf_q, ratV, raw_v]
      rw [wrap64 (by omega) (by omega)]
      refine ⟨(2, 1), h1, by dsimp only; omega, ?_⟩
      refine weak_obs ?_ ?_ (by simp only [grown_pos (show 1 ≠ 0 by omega)]; repeat (first | exact sin_empty | refine sin_set (by simp [grownS_pos]) ?_)) ?_
      · simp only [grown_pos (show 1 ≠ 0 by omega)]
        repeat (first | exact sub_empty | refine sub_set (by simp) ?_)
      · simp [grownS_pos, e1, Rat.add_zero]
      · simp only [grownS_pos (show 1 ≠ 0 by omega)]
        intro p hp r hr y hy
        simp at hp; subst hp
        exact hw _ r hr y hy _
    · simp (disch := omega) [h1, grown_pos hi0, grownS_pos hi0, setOb, List.filter_cons, Nat.max_eq_right, Nat.max_eq_left, if_neg, if_pos]
      refine callFK_of ratio_Zero (by simp) ?_
      simp [ratV, raw_v]
      refine callFK_of (ratio_Add okw zer) (by simp [toD_rawc, raw_v]) ?_
      simp (disch := omega) [setOb, List.filter_cons, rawOf_q, ratV, raw_v, Nat.max_eq_right, Nat.max_eq_left, if_neg, if_pos]
      rw [wrap64 (by omega) (by omega)]
      refine ⟨(o + 3, i + 1), h1, by dsimp only; omega, ?_⟩
      refine weak_obs ?_ ?_ (by simp only [grown_pos (show i + 1 ≠ 0 by omega)]; repeat (first | exact sin_empty | refine sin_set (by simp [grownS_pos]) ?_)) ?_
      · simp only [grown_pos (show i + 1 ≠ 0 by omega)]
        repeat (first | exact sub_empty | refine sub_set (by simp) ?_)
      · simp [grownS_pos, e1, Rat.add_zero]
      · simp only [grownS_pos (show i + 1 ≠ 0 by omega)]
        intro p hp r hr y hy
        simp at hp; subst hp
        exact hw _ r hr y hy _
  · have hil : i = l.length := by omega
    subst hil
    simp [h1]
    refine E.doneX_new (by simp) (by simp; rfl) rfl ?_ ?_
    · intro h0
      rw [grownS_pos h0]
      simp [E.look]
      rw [List.take_of_length_le (by simp)]
    · intro r hr y hy p
      exact hw l.length r (by rw [List.take_of_length_le (by simp)]; exact hr) y hy p
theorem couple_weights {σ : Sto} {l : List Part} (hl : l.length ≤ 1000000) (ho : ∀ p ∈ l, p.Ok 1000000) : CallX Tryz.prog F.couple_weights [pl l] σ (fun v s => v = grown (fresh σ) l.length ∧ s = took σ 3 l.length (l.map fun p => (rawOf p.w.q).c)) :=
  CallX.new (couple_weights0 hl ho) (fun r hr y hy => by
    obtain ⟨x, _, rfl⟩ := List.mem_map.1 hr
    exact rawc_within _ y hy) (ds := [pl l]) (by simp) (by simp [rchs])
section
variable {p : Raw → Bool} {l : List Raw} {f : Nat}
theorem index_Ratio0 (hl : l.length < 9223372036854775808) (h : ∀ a ∈ l, CallD Tryz.prog f [.agg a.c] (· = .bool (p a))) :
    CallX Tryz.prog F.slices_IndexFunc_Ratio_Ratio [.dat (l.map Raw.c), .clo f []] [] (fun v s => v = .int .i64 (fidx p l) ∧ s = []) := by
  refine callX_by F.slices_IndexFunc_Ratio_Ratio_ok ?_
  unfold F.slices_IndexFunc_Ratio_Ratio_c
  simp
  refine wm_loop (fun g : Nat => ((((Sl.empty.set 8 (.int .i64 g)).set 7 (.int .i64 l.length)).set 1 (.clo f [])).set 0 (.dat (l.map Raw.c)), [])) (fun g => g ≤ l.length ∧ ∀ j (hj : j < l.length), j < g → p l[j] = false) (fun g => l.length - g) 0 ⟨by omega, fun j hj h => by omega⟩ ?_ ?_
  · exact weak_p (by repeat (first | exact sub_empty | refine sub_set (by simp) ?_)) (by repeat (first | exact sin_empty | refine sin_set (by simp) ?_))
  rintro i ⟨hi, hb⟩
  by_cases h1 : i < l.length
  · simp [h1]
    refine ⟨_, _, ⟨rfl, rfl⟩, callK_of (h _ (List.getElem_mem h1)) (by simp [toD_rawc]) ?_⟩
    cases hp : p l[i] with
    | true =>
      simp
      exact doneX_same (by simp) (by simp; rfl) (by simp [fidx_at h1 hp hb]) (Has.refl _) shut_nil (by simp)
    | false =>
      simp
      rw [wrap64 (by omega) (by omega)]
      refine ⟨i + 1, ⟨by omega, fun j hj hji => ?_⟩, by dsimp only; omega, ?_⟩
      · by_cases e : j = i
        · subst e; exact hp
        · exact hb j hj (by omega)
      · exact weak_p (by repeat (first | exact sub_empty | refine sub_set (by simp) ?_)) (by repeat (first | exact sin_empty | refine sin_set (by simp) ?_))
  · simp [h1]
    exact doneX_same (by simp) (by simp; rfl) (by simp [fidx_none (fun j hj => hb j hj (by omega))]) (Has.refl _) shut_nil (by simp)
theorem contains_Ratio (hl : l.length < 9223372036854775808) (h : ∀ a ∈ l, CallD Tryz.prog f [.agg a.c] (· = .bool (p a))) :
    CallD Tryz.prog F.slices_ContainsFunc_Ratio_Ratio [.dat (l.map Raw.c), .clo f []] (· = .bool (l.any p)) := by
  refine callD_by F.slices_ContainsFunc_Ratio_Ratio_ok ?_
  unfold F.slices_ContainsFunc_Ratio_Ratio_c
  simp
  refine callK_X (index_Ratio0 hl h) ?_
  rintro r s ⟨rfl, rfl⟩
  simp [fidx_nonneg]
end
theorem couple_Couples_1 {a : Raw} : CallD Tryz.prog F.couple_Couples_1 [.agg a.c] (· = .bool (decide (0 < a.num.length))) := by
  refine callD_by F.couple_Couples_1_ok ?_
  unfold F.couple_Couples_1_c
  simp [setOb, List.filter_cons, Raw.c]
end Go.Proofs.YtnneehniendnfaaGreat

namespace Go.Proofs.YtnneehniendnfaaGreat
open Go Go.Proofs Go.Proofs.YtnneehniendnfaaGreat.E
set_option linter.unusedSimpArgs false
set_option linter.unusedVariables false
structure Pr where
  A : Int
  B : Int
  w : Raw
def prC (p : Pr) : List V := .int .i64 p.A :: .int .i64 p.B :: p.w.c
@[simp] theorem prC_length (p : Pr) : (prC p).length = 5 := rfl
@[simp] theorem prC_take5 (p : Pr) : (prC p).take 5 = prC p := rfl
@[simp] theorem prC_drop2 (p : Pr) : (prC p).drop 2 = p.w.c := rfl
@[simp] theorem prC_0 (p : Pr) : (prC p)[0]? = some (.int .i64 p.A) := rfl
@[simp] theorem prC_1 (p : Pr) : (prC p)[1]? = some (.int .i64 p.B) := rfl
abbrev prl (l : List Pr) : V := .dat (l.map prC)
theorem prC_within {p : Nat → Bool} (x : Pr) : ∀ y ∈ prC x, y.within p = true := by
  intro y hy; simp [prC] at hy; rcases hy with rfl | rfl | hy
  · simp [V.within]
  · simp [V.within]
  · exact rawc_within _ y hy
theorem toD_prC (σ : Sto) (n : Nat) (x : Pr) : mapO (toD σ (n + 1)) (prC x) = some (prC x) := by simp [prC, Raw.c]
def cmpPr (p q : Pr) : Int := orI (cmpI p.A q.A) (cmpI p.B q.B)
def sumS (f : Pr → Int) (ps : List Pr) (i : Int) : Rat := ps.foldl (fun s p => if f p = i then s + p.w.q else s) 0
theorem sumS_nil (f : Pr → Int) (i : Int) : sumS f [] i = 0 := rfl
theorem sumS_snoc (f : Pr → Int) (ps : List Pr) (p : Pr) (i : Int) : sumS f (ps ++ [p]) i = if f p = i then sumS f ps i + p.w.q else sumS f ps i := by
  simp [sumS, List.foldl_append]
theorem sumS_take (f : Pr → Int) {ps : List Pr} {g : Nat} (h : g < ps.length) (i : Int) : sumS f (ps.take (g + 1)) i = if f ps[g] = i then sumS f (ps.take g) i + ps[g].w.q else sumS f (ps.take g) i := by
  rw [List.take_succ_eq_append_getElem h, sumS_snoc]
def wq (l : List Part) (i : Nat) : Rat := match l[i]? with | some p => p.w.q | none => 0
theorem wq_eq {l : List Part} {i : Nat} (h : i < l.length) : wq l i = l[i].w.q := by unfold wq; rw [List.getElem?_eq_getElem h]
def left (l : List Part) (f : Pr → Int) (ps : List Pr) (i : Nat) : Rat := wq l i - sumS f ps i
def rowsOf (l : List Part) (f : Pr → Int) (ps : List Pr) : List Raw := (List.range l.length).map fun i => rawOf (left l f ps i)
@[simp] theorem rowsOf_length (l : List Part) (f : Pr → Int) (ps : List Pr) : (rowsOf l f ps).length = l.length := by simp [rowsOf]
@[simp] theorem rowsOf_get (l : List Part) (f : Pr → Int) (ps : List Pr) {i : Nat} (h : i < (rowsOf l f ps).length) : (rowsOf l f ps)[i] = rawOf (left l f ps i) := by simp [rowsOf]
theorem rowsOf_nil (l : List Part) (f : Pr → Int) : l.map (fun p => (rawOf p.w.q).c) = (rowsOf l f []).map Raw.c := by
  apply List.ext_getElem
  · simp
  · intro i h1 h2
    have h3 : i < l.length := by simpa using h1
    simp [left, wq_eq h3, sumS_nil, Rat.sub_eq_add_neg, Rat.neg_zero, Rat.add_zero]
theorem rowsOf_snoc {l : List Part} {f : Pr → Int} {ps : List Pr} {g : Nat} (h : g < ps.length) {k : Nat} (hk : f ps[g] = k) : rowsOf l f (ps.take (g + 1)) = (rowsOf l f (ps.take g)).set k (rawOf (left l f (ps.take g) k - ps[g].w.q)) := by
  apply List.ext_getElem
  · simp
  · intro i h1 h2
    rw [List.getElem_set]
    simp only [rowsOf_get]
    by_cases e : k = i
    · subst e
      rw [if_pos rfl]
      unfold left
      rw [sumS_take f h, if_pos hk]
      congr 1
      rw [Rat.sub_eq_add_neg, Rat.sub_eq_add_neg, Rat.sub_eq_add_neg, Rat.neg_add, Rat.add_assoc]
    · rw [if_neg e]
      unfold left
      rw [sumS_take f h, if_neg (by omega)]
def Pr.Ok (p : Pr) (k : Nat) : Prop := p.w.Ok k
theorem sumS_fits {f : Pr → Int} {ps : List Pr} {k : Nat} (hk : 1 ≤ k) (ho : ∀ p ∈ ps, p.w.Ok k) (i : Int) : ∀ g, g ≤ ps.length → Fits (sumS f (ps.take g) i) (1 + g * (k + 1)) := by
  intro g
  induction g with
  | zero => intro _; simpa [sumS] using fits_zero
  | succ g ih =>
    intro h
    rw [sumS_take f (by omega)]
    split
    · refine (fits_add (ih (by omega)) (Raw.fits (ho _ (List.getElem_mem (by omega))) hk)).mono ?_
      rw [Nat.succ_mul]; omega
    · refine (ih (by omega)).mono ?_
      rw [Nat.succ_mul]; omega
theorem wq_fits {l : List Part} (ho : ∀ p ∈ l, p.Ok 1000000) (i : Nat) : Fits (wq l i) 1000000 := by
  unfold wq
  split
  · rename_i p h
    exact Raw.fits (ho p (List.mem_of_getElem? h)).w (by omega)
  · exact fits_zero.mono (by omega)
theorem left_fits {l : List Part} {f : Pr → Int} {ps : List Pr} {K : Nat} (k1 : 1 ≤ K) (kK : ps.length * (K + 1) + 1000002 ≤ 2 ^ 31) (ho : ∀ p ∈ l, p.Ok 1000000) (hp : ∀ p ∈ ps, p.w.Ok K) (i : Nat) {g : Nat} (hg : g ≤ ps.length) : Fits (left l f (ps.take g) i) (2 ^ 31) := by
  have h := sumS_fits (f := f) k1 hp i g hg
  refine (fits_sub (wq_fits ho i) h).mono ?_
  have : g * (K + 1) ≤ ps.length * (K + 1) := Nat.mul_le_mul_right _ hg
  omega
def ordB (ps : List Pr) (i : Nat) : Bool := decide (i = 0) || (match ps[i - 1]?, ps[i]? with | some q, some p => decide (cmpPr q p < 0) | _, _ => false)
theorem ordB_pos {ps : List Pr} {i : Nat} (h : i < ps.length) (h0 : i ≠ 0) : ordB ps i = decide (cmpPr (ps[i - 1]'(by omega)) ps[i] < 0) := by
  unfold ordB
  rw [List.getElem?_eq_getElem h, List.getElem?_eq_getElem (show i - 1 < ps.length by omega)]
  simp [h0]
def okAt (a b : Nat) (ps : List Pr) (i : Nat) : Bool :=
  match ps[i]? with
  | some p => decide (0 ≤ p.A ∧ p.A < a ∧ 0 ≤ p.B ∧ p.B < b) && p.w.right && decide (0 < p.w.q) && ordB ps i
  | none => true
theorem okAt_eq {a b : Nat} {ps : List Pr} {i : Nat} (h : i < ps.length) : okAt a b ps i = (decide (0 ≤ ps[i].A ∧ ps[i].A < a ∧ 0 ≤ ps[i].B ∧ ps[i].B < b) && ps[i].w.right && decide (0 < ps[i].w.q) && ordB ps i) := by
  unfold okAt
  rw [List.getElem?_eq_getElem h]
def couplesP (a b : List Part) (ps : List Pr) : Bool :=
  rightP a && rightP b && (List.range ps.length).all (okAt a.length b.length ps)
    && (List.range a.length).all (fun i => decide (sumS Pr.A ps i = wq a i)) && (List.range b.length).all (fun i => decide (sumS Pr.B ps i = wq b i))
theorem cmpPr_neg (p q : Pr) : (cmpPr p q < 0) ↔ (p.A < q.A ∨ (p.A = q.A ∧ p.B < q.B)) := by
  unfold cmpPr orI cmpI
  repeat' split
  all_goals omega
theorem num_pos (r : Rat) : decide (0 < (rawOf r).num.length) = !decide (r = 0) := by
  have e : (rawOf r).num = [] ↔ r = 0 := by
    unfold rawOf; simp only [digs_nil_iff]
    rw [← Rat.num_eq_zero]; omega
  have e2 : (0 < (rawOf r).num.length) ↔ ¬ r = 0 := by
    rw [← e, ← List.length_eq_zero_iff]; omega
  by_cases h : r = 0
  · rw [decide_eq_false (by rw [e2]; simp [h]), decide_eq_true h]; rfl
  · rw [decide_eq_true (e2.2 h), decide_eq_false h]; rfl
theorem left_zero (l : List Part) (f : Pr → Int) (ps : List Pr) (i : Nat) : left l f ps i = 0 ↔ sumS f ps i = wq l i := by
  unfold left; constructor <;> intro h <;> grind
theorem rows_clear (l : List Part) (f : Pr → Int) (ps : List Pr) : (!(rowsOf l f ps).any fun x => decide (0 < x.num.length)) = (List.range l.length).all (fun i => decide (sumS f ps i = wq l i)) := by
  unfold rowsOf
  rw [List.any_map]
  induction List.range l.length with
  | nil => rfl
  | cons a r ih =>
    simp only [List.any_cons, List.all_cons, Bool.not_or, ← ih, Function.comp, num_pos, Bool.not_not, left_zero]
end Go.Proofs.YtnneehniendnfaaGreat
