import Derived.Test.YtipbefckimdkkaaGreatGP
import Derived.Test.YtipbefckimdkkaaGreatGG
import Derived.Test.YtipbefckimdkkaaGreatGD
namespace Go.Proofs.YtipbefckimdkkaaGreat.F
open Go Go.Proofs Go.Proofs.YtipbefckimdkkaaGreat.E Go.Proofs.YtipbefckimdkkaaGreat.Q
abbrev slices_BinarySearchFunc_Part_Part_Value : Nat := 124
def slices_BinarySearchFunc_Part_Part_Value_c : MFn := ⟨49,(.seq (r [o 4 (.box (.t 1)),o 6 (.mv (i 0)),o 7 (.mv (.c (.bool false)))] [0,2,4]) (.seq (r [o 12 (.mv (.t 0)),o 13 (.lenS (.t 12)),o 8 (.mv (.t 13))] [0,2,4,8]) (.seq (r [o 14 (.mv (.t 8)),o 9 (.mv (i 0)),o 10 (.mv (.t 14))] [0,2,4,8,9,10]) (.seq (.block 0 (.loop (.seq (.seq (r [o 15 (.mv (.t 9)),o 16 (.mv (.t 10)),o 17 (.bin .lss (.t 15) (.t 16))] [0,2,4,8,9,10,17]) (.cond (.t 17) .skip (.exit 0))) (.block 1 (.seq (r [o 18 (.mv (.t 9)),o 19 (.mv (.t 10)),o 20 (.bin .add (.t 18) (.t 19)),o 21 (.cvt .u64 (.t 20)),o 22 (.bin .shr (.t 21) (.c (.int .u64 1))),o 23 (.cvt .i64 (.t 22)),o 11 (.mv (.t 23))] [0,2,4,8,9,10,11]) (.seq (r [o 24 (.mv (.t 2)),o 25 (.mv (.t 0)),o 26 (.mv (.t 11)),o 27 (.ixA 6 (.t 25) (.t 26)),o 28 (.ld (some 6) (.t 27)),o 29 (.ld (some 3) (.t 4)),o 30 (.callVF (.t 24) [(.t 28),(.t 29)]),o 31 (.bin .lss (.t 30) (i 0))] [0,2,4,8,9,10,11,31]) (.cond (.t 31) (r [o 32 (.mv (.t 11)),o 33 (.bin .add (.t 32) (i 1)),o 9 (.mv (.t 33))] [0,2,4,8,9,10]) (r [o 34 (.mv (.t 11)),o 10 (.mv (.t 34))] [0,2,4,8,9,10])))))))) (.seq (r [o 35 (.mv (.t 9)),o 36 (.mv (.t 9)),o 37 (.mv (.t 8)),o 38 (.bin .lss (.t 36) (.t 37)),o 39 (.mv (.t 38)),y 40 39 (.mv (.t 2)),y 41 39 (.mv (.t 0)),y 42 39 (.mv (.t 9)),y 43 39 (.ixA 6 (.t 41) (.t 42)),y 44 39 (.ld (some 6) (.t 43)),y 45 39 (.ld (some 3) (.t 4)),y 46 39 (.callVF (.t 40) [(.t 44),(.t 45)]),y 47 39 (.bin .eql (.t 46) (i 0)),o 48 (.pick (.t 39) (.t 47) (.c (.bool false))),o 6 (.mv (.t 35)),o 7 (.mv (.t 48))] [6,7]) .ret))))),[.t 6,.t 7]⟩
theorem slices_BinarySearchFunc_Part_Part_Value_ok : cFn Tryz.prog (kps [[0,2,4],[0,2,4,8],[0,2,4,8,9,10],[0,2,4,8,9,10,17],[0,2,4,8,9,10,11],[0,2,4,8,9,10,11,31],[0,2,4,8,9,10],[0,2,4,8,9,10],[6,7]]) [] 124 = some slices_BinarySearchFunc_Part_Part_Value_c := by kernel_rfl
abbrev ref35_Weight : Nat := 29
def ref35_Weight_c : MFn := ⟨21,(.seq (r [o 3 (.box (.t 1)),o 4 (.alloc zR)] [0,3,4]) (.seq (.seq (r [o 7 (.mv (.t 0)),o 8 (.lenS (.t 7)),o 9 (.mv (i 0))] [3,4,7,8,9]) (.block 0 (.loop (.seq (r [o 10 (.bin .lss (.t 9) (.t 8))] [3,4,7,8,9,10]) (.seq (.cond (.t 10) .skip (.exit 0)) (.seq (.block 1 (.seq (r [o 11 (.ixA 6 (.t 7) (.t 9)),o 12 (.ld (some 6) (.t 11)),o 6 (.alloc zP),z (.st 6 (.t 6) (.t 12))] [3,4,6,7,8,9]) (.seq (r [o 13 (.fA 0 (.t 6)),o 14 (.ld (some 3) (.t 13)),o 15 (.ld (some 3) (.t 3)),o 16 (.call 70 [(.t 14),(.t 15)])] [3,4,6,7,8,9,16]) (.cond (.t 16) (.seq (r [o 17 (.fA 3 (.t 6)),o 18 (.ld (some 3) (.t 17)),z (.st 3 (.t 4) (.t 18))] [4]) .ret) .skip)))) (r [o 19 (.bin .add (.t 9) (i 1)),o 9 (.mv (.t 19))] [3,4,7,8,9]))))))) (.seq (r [o 20 (.call 27 []),z (.st 3 (.t 4) (.t 20))] [4]) .ret))),[.cell 4 (some 3)]⟩
theorem ref35_Weight_ok : cFn Tryz.prog (kps [[0,3,4],[3,4,7,8,9],[3,4,7,8,9,10],[3,4,6,7,8,9],[3,4,6,7,8,9,16],[4],[3,4,7,8,9],[4]]) [] 29 = some ref35_Weight_c := by kernel_rfl
abbrev ref35_Values : Nat := 26
def ref35_Values_c : MFn := ⟨41,(.seq (r [o 4 (.mv (.c .nils))] [0,1]) (.seq (r [o 5 (.mv (.c .nils))] [0,1,5]) (.seq (.seq (r [o 10 (.mv (.t 0)),o 11 (.lenS (.t 10)),o 12 (.mv (i 0))] [0,1,5,10,11,12]) (.block 0 (.loop (.seq (r [o 13 (.bin .lss (.t 12) (.t 11))] [0,1,5,10,11,12,13]) (.seq (.cond (.t 13) .skip (.exit 0)) (.seq (.block 1 (.seq (r [o 14 (.ixA 6 (.t 10) (.t 12)),o 15 (.ld (some 6) (.t 14)),o 7 (.alloc zP),z (.st 6 (.t 7) (.t 15))] [0,1,5,7,10,11,12]) (r [o 16 (.mv (.t 5)),o 17 (.fA 0 (.t 7)),o 18 (.ld (some 3) (.t 17)),o 19 (.buildSl 3 1 zV [(0,(.t 18))]),o 20 (.app 3 40 (.t 16) (.t 19)),o 5 (.mv (.t 20))] [0,1,5,10,11,12]))) (r [o 21 (.bin .add (.t 12) (i 1)),o 12 (.mv (.t 21))] [0,1,5,10,11,12]))))))) (.seq (.seq (r [o 22 (.mv (.t 1)),o 23 (.lenS (.t 22)),o 24 (.mv (i 0))] [0,5,22,23,24]) (.block 2 (.loop (.seq (r [o 25 (.bin .lss (.t 24) (.t 23))] [0,5,22,23,24,25]) (.seq (.cond (.t 25) .skip (.exit 2)) (.seq (.block 3 (.seq (r [o 26 (.ixA 6 (.t 22) (.t 24)),o 27 (.ld (some 6) (.t 26)),o 9 (.alloc zP),z (.st 6 (.t 9) (.t 27))] [0,5,9,22,23,24]) (.seq (r [o 28 (.mv (.t 0)),o 29 (.fA 0 (.t 9)),o 30 (.ld (some 3) (.t 29)),o 31 (.call 29 [(.t 28),(.t 30)]),o 32 (.call 44 [(.t 31)]),o 33 (.bin .eql (.t 32) (i 0))] [0,5,9,22,23,24,33]) (.cond (.t 33) (r [o 34 (.mv (.t 5)),o 35 (.fA 0 (.t 9)),o 36 (.ld (some 3) (.t 35)),o 37 (.buildSl 3 1 zV [(0,(.t 36))]),o 38 (.app 3 40 (.t 34) (.t 37)),o 5 (.mv (.t 38))] [0,5,22,23,24]) .skip)))) (r [o 39 (.bin .add (.t 24) (i 1)),o 24 (.mv (.t 39))] [0,5,22,23,24]))))))) (.seq (r [o 40 (.mv (.t 5)),o 4 (.mv (.t 40))] [4]) .ret))))),[.t 4]⟩
theorem ref35_Values_ok : cFn Tryz.prog (kps [[0,1],[0,1,5],[0,1,5,10,11,12],[0,1,5,10,11,12,13],[0,1,5,7,10,11,12],[0,1,5,10,11,12],[0,1,5,10,11,12],[0,5,22,23,24],[0,5,22,23,24,25],[0,5,9,22,23,24],[0,5,9,22,23,24,33],[0,5,22,23,24],[0,5,22,23,24],[4]]) [] 26 = some ref35_Values_c := by kernel_rfl
end Go.Proofs.YtipbefckimdkkaaGreat.F

namespace Go.Proofs.YtipbefckimdkkaaGreat
open Go Go.Proofs Go.Proofs.YtipbefckimdkkaaGreat.E
set_option linter.unusedSimpArgs false
set_option linter.unusedVariables false
def Rise (l : List Part) : Prop := ∀ i j (hi : i < l.length) (hj : j < l.length), i < j → cmpT l[i].v l[j].v < 0
theorem rise_of {l : List Part} (h : rightP l = true) : Rise l := by
 have h1 : ∀ i (hi : i + 1 < l.length), cmpT (l[i]'(by omega)).v l[i + 1].v < 0 := by
  intro i hi
  simp [rightP] at h
  have := h.1.2 (i + 1) hi
  rw [partAt_eq hi] at this
  simp at this
  exact this.2
 intro i j hi hj hij
 induction j with
 | zero => omega
 | succ j ih =>
   by_cases e : i = j
   ·subst e; exact h1 i hj
   ·exact cmpT_trans (ih (by omega) (by omega)) (h1 j hj)
def plc (l : List Part) (v : Tr) : Int := fidx (fun p => decide (cmpT p.v v = 0)) l
theorem toD_partC (σ : Sto) (n : Nat) (p : Part) : mapO (toD σ (n + 1)) (partC p) = some (partC p) := by
 cases p with
 | mk v w => cases v; simp [partC, cells_mk, Raw.c]
theorem search_Part {f : Nat} (hf : ∀ {p : Part} {v : Tr}, p.v.Ok → v.Ok → CallD Tryz.prog f [.agg (partC p), .agg v.cells] (· = .int .i64 (cmpT p.v v))) {l : List Part} {v : Tr} (hl : l.length ≤ 1000000) (ho : ∀ p ∈ l, p.v.Ok) (hv : v.Ok) (hr : Rise l) :
 CallD Tryz.prog F.slices_BinarySearchFunc_Part_Part_Value [pl l, .agg v.cells, .clo f []] (fun r => ∃ i : Nat, r = .tup [.int .i64 i, .bool (decide (plc l v = i))] ∧ (plc l v = i ∨ plc l v = -1)) := by
 refine callD_by F.slices_BinarySearchFunc_Part_Part_Value_ok ?_
 unfold F.slices_BinarySearchFunc_Part_Part_Value_c
 simp [setOb, List.filter_cons]
 refine wm_loop (fun g : Nat × Nat => ((((((Sl.empty.set 10 (.int .i64 g.2)).set 9 (.int .i64 g.1)).set 8 (.int .i64 l.length)).set 4 (.ptr 0 0 0)).set 2 (.clo f [])).set 0 (pl l), [(0, ⟨.own, 3, [v.cells]⟩)]))
  (fun g => g.1 ≤ g.2 ∧ g.2 ≤ l.length ∧ (∀ t (ht : t < l.length), t < g.1 → cmpT l[t].v v < 0) ∧ (∀ t (ht : t < l.length), g.2 ≤ t → 0 ≤ cmpT l[t].v v)) (fun g => g.2 - g.1) (0, l.length) ⟨by simp, by simp, fun t ht h => by simp at h, fun t ht h => by simp at h; omega⟩ ?_ ?_
 ·refine weak_obs ?_ (by simp) (by repeat (first | exact sin_empty | refine sin_set (by simp) ?_)) (by simp; exact fun y hy => cells_within _ y hy)
  repeat (first | exact sub_empty | refine sub_set (by simp) ?_)
 rintro ⟨i, j⟩ ⟨h1, h2, h3, h4⟩
 dsimp only at h1 h2 h3 h4
 by_cases h5 : i < j
 ·obtain ⟨m, em⟩ : ∃ m : Nat, m = (i + j) / 2 := ⟨_, rfl⟩
  have hm : IntKind.i64.wrap (IntKind.u64.wrap (IntKind.i64.wrap (↑i + ↑j)) / 2) = (m : Int) := by
   rw [wrap64 (x := (i : Int) + j) (by omega) (by omega), wrapU64 (by omega) (by omega), wrap64 (by omega) (by omega)]; omega
  have hml : m < l.length := by omega
  simp [h5, hm, hml]
  refine ⟨_, _, ⟨rfl, rfl⟩, callXK_of (hf (ho _ (List.getElem_mem hml)) hv) (by simp [toD_cells, toD_partC]) ?_⟩
  by_cases hc : cmpT l[m].v v < 0
  ·simp [hc]
   rw [wrap64 (by omega) (by omega)]
   refine ⟨(m + 1, j), ⟨by dsimp only; omega, h2, fun t ht h => ?_, h4⟩, by dsimp only; omega, ?_⟩
   ·by_cases e : t = m
    ·subst e; exact hc
    ·exact cmpT_trans (hr t m ht hml (by dsimp only at h; omega)) hc
   ·refine weak_obs ?_ (by simp) (by repeat (first | exact sin_empty | refine sin_set (by simp) ?_)) (by simp; exact fun y hy => cells_within _ y hy)
    repeat (first | exact sub_empty | refine sub_set (by simp) ?_)
  ·simp [hc]
   refine ⟨(i, m), ⟨by dsimp only; omega, by dsimp only; omega, h3, fun t ht h => ?_⟩, by dsimp only; omega, ?_⟩
   ·dsimp only at h
    by_cases e : t = m
    ·subst e; omega
    ·refine Int.not_lt.1 fun hlt => hc (cmpT_trans (hr m t hml ht (by omega)) hlt)
   ·refine weak_obs ?_ (by simp) (by repeat (first | exact sin_empty | refine sin_set (by simp) ?_)) (by simp; exact fun y hy => cells_within _ y hy)
    repeat (first | exact sub_empty | refine sub_set (by simp) ?_)
 ·have : i = j := by omega
  subst this
  have found : ∀ (h6 : i < l.length), cmpT l[i].v v = 0 → plc l v = i := fun h6 hz => fidx_at h6 (by simp [hz]) (fun j hj hji => by have := h3 j hj hji; simp; omega)
  have miss : (∀ h6 : i < l.length, cmpT l[i].v v ≠ 0) → plc l v = -1 := fun hz => fidx_none fun j hj => by
   have : cmpT l[j].v v ≠ 0 := by
    by_cases e1 : j < i
    ·have := h3 j hj e1; omega
    ·by_cases e2 : j = i
     ·subst e2; exact hz hj
     ·intro e0
      rw [cmpT_zero] at e0
      have a1 := h4 i (by omega) (Nat.le_refl _)
      have a2 := hr i j (by omega) hj (by omega)
      rw [e0] at a2
      omega
   simp [this]
  by_cases h6 : i < l.length
  ·simp [h6]
   refine ⟨_, _, ⟨rfl, rfl⟩, callXK_of (hf (ho _ (List.getElem_mem h6)) hv) (by simp [toD_cells, toD_partC]) ?_⟩
   simp
   refine ⟨i, ⟨rfl, ?_⟩, ?_⟩
   ·constructor
    ·exact found h6
    ·intro h
     refine Classical.byContradiction fun hz => ?_
     rw [miss (fun h' => hz)] at h
     omega
   ·by_cases hz : cmpT l[i].v v = 0
    ·exact .inl (found h6 hz)
    ·exact .inr (miss (fun h' => hz))
  ·simp [h6]
   have := miss (fun h' => (h6 h').elim)
   exact ⟨i, ⟨rfl, by omega⟩, .inr this⟩
def sumBy {α : Type} (f : α → Rat) (l : List α) : Rat := l.foldl (fun s p => s + f p) 0
section
variable {α β : Type} {f g : α → Rat}
theorem sumBy_nil : sumBy f [] = 0 := rfl
theorem sumBy_snoc (l : List α) (p : α) : sumBy f (l ++ [p]) = sumBy f l + f p := by simp [sumBy, List.foldl_append]
theorem sumBy_take {l : List α} {i : Nat} (h : i < l.length) : sumBy f (l.take (i + 1)) = sumBy f (l.take i) + f l[i] := by
 rw [List.take_succ_eq_append_getElem h, sumBy_snoc]
theorem sumBy_init (l : List α) (s : Rat) : l.foldl (fun s p => s + f p) s = s + sumBy f l := by
 unfold sumBy
 induction l generalizing s with
 | nil => simp [Rat.add_zero]
 | cons a l ih => simp only [List.foldl_cons]; rw [ih, ih (0 + f a), Rat.zero_add, Rat.add_assoc]
theorem sumBy_cons (p : α) (l : List α) : sumBy f (p :: l) = f p + sumBy f l := by
 show (p :: l).foldl (fun s p => s + f p) 0 = _
 rw [List.foldl_cons, sumBy_init, Rat.zero_add]
theorem sumBy_append (l m : List α) : sumBy f (l ++ m) = sumBy f l + sumBy f m := by
 show (l ++ m).foldl (fun s p => s + f p) 0 = _
 rw [List.foldl_append, sumBy_init]; rfl
theorem sumBy_map (h : β → α) (l : List β) : sumBy f (l.map h) = sumBy (fun x => f (h x)) l := by
 induction l with
 | nil => rfl
 | cons a l ih => rw [List.map_cons, sumBy_cons, sumBy_cons, ih]
theorem sumBy_congr {l : List α} (h : ∀ x ∈ l, f x = g x) : sumBy f l = sumBy g l := by
 induction l with
 | nil => rfl
 | cons a l ih => rw [sumBy_cons, sumBy_cons, h a (by simp), ih fun x hx => h x (by simp [hx])]
theorem sumBy_add (l : List α) : sumBy (fun x => f x + g x) l = sumBy f l + sumBy g l := by
 induction l with
 | nil => simp [sumBy_nil, Rat.add_zero]
 | cons a l ih => rw [sumBy_cons, sumBy_cons, sumBy_cons, ih]; grind
theorem sumBy_sub (l : List α) : sumBy (fun x => f x - g x) l = sumBy f l - sumBy g l := by
 induction l with
 | nil => simp [sumBy_nil]; grind
 | cons a l ih => rw [sumBy_cons, sumBy_cons, sumBy_cons, ih]; grind
theorem sumBy_mul (c : Rat) (l : List α) : sumBy (fun x => c * f x) l = c * sumBy f l := by
 induction l with
 | nil => simp [sumBy_nil]
 | cons a l ih => rw [sumBy_cons, sumBy_cons, ih]; grind
theorem sumBy_zero (l : List α) : sumBy (fun _ => 0) l = 0 := by
 induction l with
 | nil => rfl
 | cons a l ih => rw [sumBy_cons, ih, Rat.add_zero]
theorem sumBy_le {l : List α} (h : ∀ x ∈ l, f x ≤ g x) : sumBy f l ≤ sumBy g l := by
 induction l with
 | nil => rw [sumBy_nil, sumBy_nil]; grind
 | cons a l ih =>
   rw [sumBy_cons, sumBy_cons]
   have h1 := h a (by simp)
   have h2 := ih fun x hx => h x (by simp [hx])
   grind
theorem sumBy_swap {h : α → β → Rat} (l : List α) (m : List β) : sumBy (fun x => sumBy (fun y => h x y) m) l = sumBy (fun y => sumBy (fun x => h x y) l) m := by
 induction l with
 | nil => simp only [sumBy_nil]; rw [sumBy_zero]
 | cons a l ih =>
   rw [sumBy_cons, ih, ← sumBy_add]
   exact sumBy_congr fun y _ => (sumBy_cons (f := fun x => h x y) a l).symm
theorem sumBy_fits {k : Nat} (l : List α) (h : ∀ x ∈ l, Fits (f x) k) : Fits (sumBy f l) (1 + l.length * (k + 1)) := by
 suffices h2 : ∀ n, n ≤ l.length → Fits (sumBy f (l.take n)) (1 + n * (k + 1)) by
  have := h2 l.length (Nat.le_refl _); rwa [List.take_length] at this
 intro n
 induction n with
 | zero => intro _; simpa [sumBy] using fits_zero
 | succ n ih =>
   intro hn
   rw [sumBy_take (by omega)]
   refine (fits_add (ih (by omega)) (h _ (List.getElem_mem (by omega)))).mono ?_
   rw [Nat.succ_mul]; omega
end
theorem sumQ_by (l : List Part) : sumQ l = sumBy (fun p => p.w.q) l := rfl
def wtQ (l : List Part) (v : Tr) : Rat := match l.find? (fun p => decide (cmpT p.v v = 0)) with
 | some p => p.w.q
 | none => 0
theorem wtQ_cons (p : Part) (l : List Part) (v : Tr) : wtQ (p :: l) v = if p.v = v then p.w.q else wtQ l v := by
 unfold wtQ
 rw [List.find?_cons]
 by_cases h : p.v = v
 ·simp [h, cmpT_self]
 ·simp [h, cmpT_zero]
theorem wtQ_none {l : List Part} {v : Tr} (h : ∀ p ∈ l, p.v ≠ v) : wtQ l v = 0 := by
 induction l with
 | nil => rfl
 | cons p l ih => rw [wtQ_cons, if_neg (h p (by simp)), ih fun q hq => h q (by simp [hq])]
theorem plc_none {l : List Part} {v : Tr} (h : plc l v = -1) : ∀ p ∈ l, p.v ≠ v := by
 intro p hp e
 unfold plc fidx at h
 split at h
 ·omega
 ·rename_i h0
  rw [List.findIdx?_eq_none_iff] at h0
  have := h0 p hp
  simp [e, cmpT_self] at this
theorem plc_some {l : List Part} {v : Tr} {i : Nat} (h : plc l v = i) : ∃ hi : i < l.length, l[i].v = v ∧ wtQ l v = l[i].w.q := by
 unfold plc fidx at h
 split at h
 ·rename_i j h0
  have : j = i := by omega
  subst this
  have h1 := h0
  rw [List.findIdx?_eq_some_iff_getElem] at h0
  obtain ⟨hi, h2, h3⟩ := h0
  have e : l[j].v = v := by simpa [cmpT_zero] using h2
  refine ⟨hi, e, ?_⟩
  have : l.find? (fun p => decide (cmpT p.v v = 0)) = some l[j] := by
   rw [List.find?_eq_some_iff_getElem]
   exact ⟨h2, j, hi, rfl, fun k hk => by simpa using h3 k hk⟩
  unfold wtQ; rw [this]
 ·omega
def Norm (l : List Part) : Prop := ∀ p ∈ l, p.w = rawOf p.w.q
structure Good (l : List Part) : Prop where
 ok : ∀ p ∈ l, p.Ok 1000000
 le : l.length ≤ 60
 ne : l ≠ []
 norm : Norm l
 pos : ∀ p ∈ l, 0 < p.w.q
 rise : Rise l
 one : sumQ l = 1
theorem good_of {l : List Part} (h : rightP l = true) (ho : ∀ p ∈ l, p.Ok 1000000) : Good l := by
 have hr := rise_of h
 have h0 := h
 simp [rightP] at h
 have hat : ∀ i (hi : i < l.length), l[i].w.right = true ∧ 0 < l[i].w.q := by
  intro i hi
  have := h.1.2 i hi
  rw [partAt_eq hi] at this
  simp at this
  exact ⟨this.1.1.2, this.1.2⟩
 refine ⟨ho, h.1.1, ?_, ?_, ?_, hr, h.2⟩
 ·rintro rfl; simp [rightP, sumQ] at h0
 ·intro p hp
  obtain ⟨i, hi, rfl⟩ := List.getElem_of_mem hp
  exact (Raw.right_iff (ho _ (List.getElem_mem hi)).w).1 (hat i hi).1
 ·intro p hp
  obtain ⟨i, hi, rfl⟩ := List.getElem_of_mem hp
  exact (hat i hi).2
theorem Good.nn {l : List Part} (h : Good l) {p : Part} (hp : p ∈ l) : p.w.neg = false := by
 rw [h.norm p hp]
 show decide (p.w.q < 0) = false
 have := h.pos p hp
 exact decide_eq_false (by grind)
theorem wtQ_fits {l : List Part} (ho : ∀ p ∈ l, p.Ok 1000000) (v : Tr) : Fits (wtQ l v) 1000000 := by
 unfold wtQ
 split
 ·rename_i p h
  exact Raw.fits (ho p (List.mem_of_find?_eq_some h)).w (by omega)
 ·exact fits_zero.mono (by omega)
def posR (r : Rat) : Rat := if r < 0 then 0 else r
def valsT (a b : List Part) : List Tr := a.map (·.v) ++ (b.filter fun p => decide (wtQ a p.v = 0)).map (·.v)
theorem posR_fits {r : Rat} {k : Nat} (h : Fits r k) (h1 : 1 ≤ k) : Fits (posR r) k := by
 unfold posR; split
 ·exact fits_zero.mono h1
 ·exact h
def fAt (f : Part → Rat) (l : List Part) (v : Tr) : Rat := match l.find? (fun p => decide (cmpT p.v v = 0)) with
 | some p => f p
 | none => 0
theorem fAt_cons (f : Part → Rat) (p : Part) (l : List Part) (v : Tr) : fAt f (p :: l) v = if p.v = v then f p else fAt f l v := by
 unfold fAt
 rw [List.find?_cons]
 by_cases h : p.v = v
 ·simp [h, cmpT_self]
 ·simp [h, cmpT_zero]
theorem fAt_none {f : Part → Rat} {l : List Part} {v : Tr} (h : ∀ p ∈ l, p.v ≠ v) : fAt f l v = 0 := by
 induction l with
 | nil => rfl
 | cons p l ih => rw [fAt_cons, if_neg (h p (by simp)), ih fun q hq => h q (by simp [hq])]
theorem wtQ_at (l : List Part) (v : Tr) : wtQ l v = fAt (fun p => p.w.q) l v := rfl
def Dist (l : List Part) : Prop := (l.map (·.v)).Nodup
theorem dist_of {l : List Part} (h : Rise l) : Dist l := by
 unfold Dist List.Nodup
 rw [List.pairwise_map, List.pairwise_iff_getElem]
 intro i j hi hj hij e
 have := h i j hi hj hij
 rw [e, cmpT_self] at this
 omega
theorem fAt_mem {f : Part → Rat} {l : List Part} (hd : Dist l) {p : Part} (hp : p ∈ l) : fAt f l p.v = f p := by
 induction l with
 | nil => simp at hp
 | cons a l ih =>
   unfold Dist at hd
   rw [List.map_cons, List.nodup_cons] at hd
   rw [fAt_cons]
   simp only [List.mem_cons] at hp
   rcases hp with rfl | hp
   ·simp
   ·have : ¬ a.v = p.v := fun e => hd.1 (by rw [e]; exact List.mem_map.2 ⟨p, hp, rfl⟩)
    rw [if_neg this]
    exact ih hd.2 hp
theorem sum_one {f : Part → Rat} {l : List Part} (hd : Dist l) (v : Tr) : sumBy (fun p => if p.v = v then f p else 0) l = fAt f l v := by
 induction l with
 | nil => rfl
 | cons a l ih =>
   unfold Dist at hd
   rw [List.map_cons, List.nodup_cons] at hd
   rw [sumBy_cons, fAt_cons, ih hd.2]
   by_cases e : a.v = v
   ·have : fAt f l v = 0 := fAt_none fun p hp e2 => hd.1 (by rw [e, ← e2]; exact List.mem_map.2 ⟨p, hp, rfl⟩)
    simp only [e, if_true, this, Rat.add_zero]
   ·simp only [e, if_false, Rat.zero_add]
theorem rawc_0 (x : Raw) : x.c[0]? = some (.bool x.neg) := (rfl)
theorem ref35_Weight {l : List Part} {v : Tr} (ll : l.length ≤ 1000) (ho : ∀ p ∈ l, p.Ok 1000000) (hn : Norm l) (hv : v.Ok) : CallD Tryz.prog F.ref35_Weight [pl l, .agg v.cells] (· = ratV (wtQ l v)) := by
 refine callD_by F.ref35_Weight_ok ?_
 unfold F.ref35_Weight_c
 simp [setOb, List.filter_cons]
 refine wm_loop (fun g : Nat => (((((Sl.empty.set 9 (.int .i64 g)).set 8 (.int .i64 l.length)).set 7 (pl l)).set 4 (.ptr 1 0 0)).set 3 (.ptr 0 0 0), [(0, ⟨.own, 3, [v.cells]⟩), (1, ⟨.own, 3, [[.bool false, .nils, .nils]]⟩)]))
  (fun g => g ≤ l.length ∧ wtQ l v = wtQ (l.drop g) v) (fun g => l.length - g) 0 ⟨by omega, by simp⟩ ?_ ?_
 ·refine weak_obs ?_ (by simp) (by repeat (first | exact sin_empty | refine sin_set (by simp) ?_)) (by simp; exact fun y hy => cells_within _ y hy)
  repeat (first | exact sub_empty | refine sub_set (by simp) ?_)
 rintro i ⟨hi, hw⟩
 by_cases h1 : i < l.length
 ·have okp := ho l[i] (List.getElem_mem h1)
  rw [List.drop_eq_getElem_cons h1, wtQ_cons] at hw
  simp [h1, setOb, List.filter_cons]
  refine callK_of (ref03_Same okp.v hv) (by simp [toD_cells]) ?_
  by_cases e : l[i].v = v
  ·have ez : cmpT l[i].v v = 0 := (cmpT_zero _ _).2 e
   rw [if_pos e] at hw
   simp [ez, setOb, List.filter_cons, toD_rawc, ratV, raw_v]
   rw [hw, ← hn _ (List.getElem_mem h1)]
  ·have ez : ¬ cmpT l[i].v v = 0 := fun h => e ((cmpT_zero _ _).1 h)
   rw [if_neg e] at hw
   simp [ez]
   rw [wrap64 (by omega) (by omega)]
   refine ⟨i + 1, ⟨h1, hw⟩, by dsimp only; omega, ?_⟩
   refine weak_obs ?_ (by simp) (by repeat (first | exact sin_empty | refine sin_set (by simp) ?_)) (by simp; exact fun y hy => cells_within _ y hy)
   repeat (first | exact sub_empty | refine sub_set (by simp) ?_)
 ·rw [List.drop_eq_nil_of_le (by omega)] at hw
  have hw : wtQ l v = 0 := hw
  simp [h1]
  refine callK_of ref02_Zero (by simp) ?_
  simp [setOb, List.filter_cons, toD_rawc, ratV, raw_v, hw]
theorem valsT_nil (a : List Part) : valsT a [] = a.map (·.v) := by simp [valsT]
theorem valsT_take (a : List Part) {b : List Part} {j : Nat} (h : j < b.length) : valsT a (b.take (j + 1)) = if wtQ a b[j].v = 0 then valsT a (b.take j) ++ [b[j].v] else valsT a (b.take j) := by
 rw [List.take_succ_eq_append_getElem h]
 unfold valsT
 rw [List.filter_append]
 by_cases h0 : wtQ a b[j].v = 0
 ·simp [h0]
 ·simp [h0]
set_option maxHeartbeats 4000000 in
theorem ref35_Values {a b : List Part} (la : a.length ≤ 1000) (lb : b.length ≤ 1000) (ga : Good a) (ob : ∀ p ∈ b, p.Ok 1000000) : CallD Tryz.prog F.ref35_Values [pl a, pl b] (· = tl (valsT a b)) := by
 refine callD_by F.ref35_Values_ok ?_
 unfold F.ref35_Values_c
 simp [setOb, List.filter_cons]
 refine wm_loop (fun g : Nat × Nat => ((((((Sl.empty.set 12 (.int .i64 g.2)).set 11 (.int .i64 a.length)).set 10 (pl a)).set 5 (grown g.1 g.2)).set 1 (pl b)).set 0 (pl a), grownS g.1 3 g.2 ((a.map fun p => p.v.cells).take g.2)))
  (fun g => g.2 ≤ a.length) (fun g => a.length - g.2) (0, 0) (by simp) ?_ ?_
 ·refine weak_obs ?_ (by simp [grown_zero, grownS_zero]) (by repeat (first | exact sin_empty | refine sin_set (by simp [grown_zero]) ?_)) (by simp [grown_zero, grownS_zero])
  simp only [grown_zero]
  repeat (first | exact sub_empty | refine sub_set (by simp) ?_)
 rintro ⟨o, i⟩ hi
 dsimp only at hi
 have hw : ∀ n, ∀ r ∈ List.take n (a.map fun p => p.v.cells), ∀ y ∈ r, ∀ p : Nat → Bool, y.within p = true := fun n r hr y hy p => by
  obtain ⟨x, _, rfl⟩ := List.mem_map.1 (List.mem_of_mem_take hr)
  exact cells_within _ y hy
 by_cases h1 : i < a.length
 ·have e1 : List.take (i + 1) (a.map fun p => p.v.cells) = List.take i (a.map fun p => p.v.cells) ++ [a[i].v.cells] := by
   rw [List.take_succ_eq_append_getElem (by simpa using h1)]; simp
  by_cases hi0 : i = 0
  ·subst hi0
   simp at e1
   simp [h1, grown_zero, grownS_zero, setOb, List.filter_cons]
   rw [wrap64 (by omega) (by omega)]
   refine ⟨(2, 1), h1, by dsimp only; omega, ?_⟩
   refine weak_obs ?_ ?_ (by simp only [grown_pos (show 1 ≠ 0 by omega)]; repeat (first | exact sin_empty | refine sin_set (by simp [grownS_pos]) ?_)) ?_
   ·simp only [grown_pos (show 1 ≠ 0 by omega)]
    repeat (first | exact sub_empty | refine sub_set (by simp) ?_)
   ·simp [grownS_pos, e1]
   ·simp only [grownS_pos (show 1 ≠ 0 by omega)]
    intro p hp r hr y hy
    simp at hp; subst hp
    exact hw _ r hr y hy _
  ·simp (disch := omega) [h1, grown_pos hi0, grownS_pos hi0, setOb, List.filter_cons, Nat.max_eq_right, Nat.max_eq_left, if_neg, if_pos]
   rw [wrap64 (by omega) (by omega)]
   refine ⟨(o + 3, i + 1), h1, by dsimp only; omega, ?_⟩
   refine weak_obs ?_ ?_ (by simp only [grown_pos (show i + 1 ≠ 0 by omega)]; repeat (first | exact sin_empty | refine sin_set (by simp [grownS_pos]) ?_)) ?_
   ·simp only [grown_pos (show i + 1 ≠ 0 by omega)]
    repeat (first | exact sub_empty | refine sub_set (by simp) ?_)
   ·simp [grownS_pos, e1]
   ·simp only [grownS_pos (show i + 1 ≠ 0 by omega)]
    intro p hp r hr y hy
    simp at hp; subst hp
    exact hw _ r hr y hy _
 ·have hil : i = a.length := by omega
  subst hil
  have na : a.length ≠ 0 := fun h => ga.ne (List.length_eq_zero_iff.1 h)
  have et : List.take a.length (a.map fun p => p.v.cells) = (a.map (·.v)).map Tr.cells := by rw [List.take_of_length_le (by simp), List.map_map]; rfl
  simp only [h1, et, grown_pos na, grownS_pos na]
  simp [h1]
  refine wm_loop (fun g : Nat × Nat => ((((((Sl.empty.set 24 (.int .i64 g.2)).set 23 (.int .i64 b.length)).set 22 (pl b)).set 5 (.ref g.1 0 (valsT a (b.take g.2)).length)).set 0 (pl a)), [(g.1, ⟨.own, 3, (valsT a (b.take g.2)).map Tr.cells⟩)]))
   (fun g => g.2 ≤ b.length) (fun g => b.length - g.2) (o, 0) (by simp) ?_ ?_
  ·refine weak_obs ?_ ?_ (by simp only []; repeat (first | exact sin_empty | refine sin_set (by simp) ?_)) ?_
   ·simp only [List.take_zero, valsT_nil]
    repeat (first | exact sub_empty | refine sub_set (by simp) ?_)
   ·simp [valsT_nil]
   ·simp
    intro x hx y hy
    exact cells_within _ y hy
  rintro ⟨q, j⟩ hj
  dsimp only at hj
  have wi : ∀ (l : List Tr) (r : List V), r ∈ l.map Tr.cells → ∀ (y : V), y ∈ r → ∀ (p : Nat → Bool), V.within p y = true := fun l r hr y hy p => by
   obtain ⟨x, _, rfl⟩ := List.mem_map.1 hr
   exact cells_within _ y hy
  have nz : (valsT a (b.take j)).length ≠ 0 := by rw [valsT, List.length_append, List.length_map]; omega
  by_cases h2 : j < b.length
  ·have okp := ob b[j] (List.getElem_mem h2)
   have hst := valsT_take a h2
   have fw : (rawOf (wtQ a b[j].v)).Ok (2 ^ 33) := rawOf_ok ((wtQ_fits ga.ok _).mono (by omega))
   have lim : (valsT a (b.take j)).length ≤ 2000 := by
    simp [valsT]
    have h1 := List.length_filter_le (fun p : Part => decide (wtQ a p.v = 0)) (b.take j)
    have h3 : (b.take j).length ≤ b.length := by rw [List.length_take]; omega
    omega
   simp [h2, setOb, List.filter_cons]
   refine callK_of (ref35_Weight la ga.ok ga.norm okp.v) (by simp [toD_cells]) ?_
   simp (disch := omega) [ratV, raw_v, Nat.max_eq_right, Nat.max_eq_left, if_neg, if_pos]
   refine callK_of (ref02_Sign fw) (by simp [toD_rawc, raw_v]) ?_
   rw [rawOf_q]
   by_cases hz : wtQ a b[j].v = 0
   ·have hz' : sgnR (wtQ a b[j].v) = 0 := sgnR_eq.2 hz
    rw [if_pos hz] at hst
    simp (disch := omega) [hz', setOb, List.filter_cons, Nat.max_eq_right, Nat.max_eq_left, if_neg, if_pos]
    rw [wrap64 (by omega) (by omega)]
    refine ⟨(q + 3, j + 1), h2, by dsimp only; omega, ?_⟩
    dsimp only
    rw [hst]
    refine weak_obs ?_ (by simp) (by repeat (first | exact sin_empty | refine sin_set (by simp) ?_)) ?_
    ·rw [List.length_append]
     repeat (first | exact sub_empty | refine sub_set (by simp) ?_)
    ·intro p hp r hr y hy
     simp only [List.mem_singleton] at hp; subst hp
     exact wi _ r hr y hy _
   ·have hz' : ¬ sgnR (wtQ a b[j].v) = 0 := fun h => hz (sgnR_eq.1 h)
    rw [if_neg hz] at hst
    simp [hz']
    rw [wrap64 (by omega) (by omega)]
    refine ⟨(q, j + 1), h2, by dsimp only; omega, ?_⟩
    dsimp only
    rw [hst]
    refine weak_obs ?_ (by simp) (by repeat (first | exact sin_empty | refine sin_set (by simp) ?_)) ?_
    ·repeat (first | exact sub_empty | refine sub_set (by simp) ?_)
    ·intro p hp r hr y hy
     simp only [List.mem_singleton] at hp; subst hp
     exact wi _ r hr y hy _
  ·have hjl : j = b.length := by omega
   subst hjl
   rw [List.take_length] at nz ⊢
   simp [h2]
   rw [E.toD_ref (k := 11) (st := .own) (es := 3) (l := (valsT a b).map Tr.cells) (by simp [E.look]) (by simp) (by simp) (by simp) nz (fun r hr => by obtain ⟨x, _, rfl⟩ := List.mem_map.1 hr; exact toD_cells _ _ _)]
end Go.Proofs.YtipbefckimdkkaaGreat
