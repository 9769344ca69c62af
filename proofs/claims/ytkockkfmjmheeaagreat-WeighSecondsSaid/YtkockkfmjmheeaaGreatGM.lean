import Derived.Test.YtkockkfmjmheeaaGreatGD
import Derived.Test.YtkockkfmjmheeaaGreatGG
import Derived.Test.YtkockkfmjmheeaaGreatGC
import Derived.Test.YtkockkfmjmheeaaGreatProg
import Derived.KernelRfl
import Derived.Test.YtkockkfmjmheeaaGreatGE
namespace Go.Proofs.YtkockkfmjmheeaaGreat.F
open Go Go.Proofs Go.Proofs.YtkockkfmjmheeaaGreat.E Go.Proofs.YtkockkfmjmheeaaGreat.Q
abbrev cmp_isNaN_int : Nat := 112
def cmp_isNaN_int_c : MFn := ⟨6,(.seq (r [o 2 (.mv (.c (.bool false)))] [0]) (.seq (r [o 3 (.mv (.t 0)),o 4 (.mv (.t 0)),o 5 (.bin .neq (.t 3) (.t 4)),o 2 (.mv (.t 5))] [2]) .ret)),[.t 2]⟩
theorem cmp_isNaN_int_ok : cFn Tryz.prog (kps [[0],[2]]) [] 112 = some cmp_isNaN_int_c := by kernel_rfl
abbrev cmp_Compare_int : Nat := 90
def cmp_Compare_int_c : MFn := ⟨20,(.seq (r [o 4 (.mv (i 0))] [0,1]) (.seq (r [o 7 (.mv (.t 0)),o 8 (.call 112 [(.t 7)]),o 5 (.mv (.t 8))] [0,1,5]) (.seq (r [o 9 (.mv (.t 1)),o 10 (.call 112 [(.t 9)]),o 6 (.mv (.t 10))] [0,1,5,6]) (.seq (.seq (r [o 11 (.mv (.t 5))] [0,1,6,11]) (.cond (.t 11) (.seq (.seq (r [o 12 (.mv (.t 6))] [12]) (.cond (.t 12) (.seq (r [o 4 (.mv (i 0))] [4]) .ret) .skip)) (.seq (r [o 4 (.mv (i (-1)))] [4]) .ret)) .skip)) (.seq (.seq (r [o 13 (.mv (.t 6))] [0,1,13]) (.cond (.t 13) (.seq (r [o 4 (.mv (i 1))] [4]) .ret) .skip)) (.seq (.seq (r [o 14 (.mv (.t 0)),o 15 (.mv (.t 1)),o 16 (.bin .lss (.t 14) (.t 15))] [0,1,16]) (.cond (.t 16) (.seq (r [o 4 (.mv (i (-1)))] [4]) .ret) .skip)) (.seq (.seq (r [o 17 (.mv (.t 0)),o 18 (.mv (.t 1)),o 19 (.bin .gtr (.t 17) (.t 18))] [19]) (.cond (.t 19) (.seq (r [o 4 (.mv (i 1))] [4]) .ret) .skip)) (.seq (r [o 4 (.mv (i 0))] [4]) .ret)))))))),[.t 4]⟩
theorem cmp_Compare_int_ok : cFn Tryz.prog (kps [[0,1],[0,1,5],[0,1,5,6],[0,1,6,11],[12],[4],[4],[0,1,13],[4],[0,1,16],[4],[19],[4],[4]]) [] 90 = some cmp_Compare_int_c := by kernel_rfl
abbrev value_Compare : Nat := 55
def value_Compare_c : MFn := ⟨26,(.seq (r [o 2 (.box (.t 0)),o 3 (.box (.t 1)),o 4 (.mv (i 0))] [2,3]) (.seq (r [o 6 (.fA 0 (.t 2)),o 7 (.ld none (.t 6)),o 8 (.fA 0 (.t 3)),o 9 (.ld none (.t 8)),o 10 (.call 90 [(.t 7),(.t 9)]),o 5 (.mv (.t 10))] [2,3,5]) (.seq (.seq (r [o 11 (.mv (.t 5)),o 12 (.bin .eql (.t 11) (i 0))] [2,3,5,12]) (.cond (.t 12) (r [o 13 (.fA 1 (.t 2)),o 14 (.ld none (.t 13)),o 15 (.fA 1 (.t 3)),o 16 (.ld none (.t 15)),o 17 (.call 90 [(.t 14),(.t 16)]),o 5 (.mv (.t 17))] [2,3,5]) .skip)) (.seq (.seq (r [o 18 (.mv (.t 5)),o 19 (.bin .eql (.t 18) (i 0))] [2,3,5,19]) (.cond (.t 19) (r [o 20 (.fA 2 (.t 2)),o 21 (.ld none (.t 20)),o 22 (.fA 2 (.t 3)),o 23 (.ld none (.t 22)),o 24 (.call 91 [(.t 21),(.t 23),(.c (.clo 55 []))]),o 5 (.mv (.t 24))] [5]) .skip)) (.seq (r [o 25 (.mv (.t 5)),o 4 (.mv (.t 25))] [4]) .ret))))),[.t 4]⟩
theorem value_Compare_ok : cFn Tryz.prog (kps [[2,3],[2,3,5],[2,3,5,12],[2,3,5],[2,3,5,19],[5],[4]]) [] 55 = some value_Compare_c := by kernel_rfl
abbrev slices_CompareFunc_Value_Value_Value_Value : Nat := 91
def slices_CompareFunc_Value_Value_Value_Value_c : MFn := ⟨39,(.seq (r [o 6 (.mv (i 0))] [0,1,2]) (.seq (.seq (r [o 11 (.mv (.t 0)),o 12 (.lenS (.t 11)),o 13 (.mv (i 0))] [0,1,2,11,12,13]) (.block 0 (.loop (.seq (r [o 14 (.bin .lss (.t 13) (.t 12))] [0,1,2,11,12,13,14]) (.seq (.cond (.t 14) .skip (.exit 0)) (.seq (.block 1 (.seq (r [o 15 (.mv (.t 13)),o 16 (.ixA 3 (.t 11) (.t 13)),o 17 (.ld (some 3) (.t 16)),o 8 (.alloc zV),o 7 (.mv (.t 15)),z (.st 3 (.t 8) (.t 17))] [0,1,2,7,8,11,12,13]) (.seq (.seq (r [o 18 (.mv (.t 7)),o 19 (.mv (.t 1)),o 20 (.lenS (.t 19)),o 21 (.bin .geq (.t 18) (.t 20))] [0,1,2,7,8,11,12,13,21]) (.cond (.t 21) (.seq (r [o 6 (.mv (i 1))] [6]) .ret) .skip)) (.seq (r [o 22 (.mv (.t 1)),o 23 (.mv (.t 7)),o 24 (.ixA 3 (.t 22) (.t 23)),o 25 (.ld (some 3) (.t 24)),o 9 (.alloc zV),z (.st 3 (.t 9) (.t 25))] [0,1,2,8,9,11,12,13]) (.seq (r [o 26 (.mv (.t 2)),o 27 (.ld (some 3) (.t 8)),o 28 (.ld (some 3) (.t 9)),o 29 (.callV (.t 26) [(.t 27),(.t 28)]),o 10 (.mv (.t 29))] [0,1,2,10,11,12,13]) (.seq (r [o 30 (.mv (.t 10)),o 31 (.bin .neq (.t 30) (i 0))] [0,1,2,10,11,12,13,31]) (.cond (.t 31) (.seq (r [o 32 (.mv (.t 10)),o 6 (.mv (.t 32))] [6]) .ret) .skip))))))) (r [o 33 (.bin .add (.t 13) (i 1)),o 13 (.mv (.t 33))] [0,1,2,11,12,13]))))))) (.seq (.seq (r [o 34 (.mv (.t 0)),o 35 (.lenS (.t 34)),o 36 (.mv (.t 1)),o 37 (.lenS (.t 36)),o 38 (.bin .lss (.t 35) (.t 37))] [38]) (.cond (.t 38) (.seq (r [o 6 (.mv (i (-1)))] [6]) .ret) .skip)) (.seq (r [o 6 (.mv (i 0))] [6]) .ret)))),[.t 6]⟩
theorem slices_CompareFunc_Value_Value_Value_Value_ok : cFn Tryz.prog (kps [[0,1,2],[0,1,2,11,12,13],[0,1,2,11,12,13,14],[0,1,2,7,8,11,12,13],[0,1,2,7,8,11,12,13,21],[6],[0,1,2,8,9,11,12,13],[0,1,2,10,11,12,13],[0,1,2,10,11,12,13,31],[6],[0,1,2,11,12,13],[38],[6],[6]]) [] 91 = some slices_CompareFunc_Value_Value_Value_Value_c := by kernel_rfl
abbrev ref03_order : Nat := 93
def ref03_order_c : MFn := ⟨13,(.seq (r [o 4 (.mv (i 0))] [0,1]) (.seq (.block 0 (.seq (r [o 6 (.mv (.t 0)),o 7 (.mv (.t 1)),o 8 (.bin .lss (.t 6) (.t 7)),o 5 (.mv (.t 8))] [0,1,5]) (.cond (.t 5) (.seq (r [o 4 (.mv (i (-1)))] [4]) .ret) (.seq (r [o 10 (.mv (.t 0)),o 11 (.mv (.t 1)),o 12 (.bin .gtr (.t 10) (.t 11)),o 9 (.mv (.t 12))] [9]) (.cond (.t 9) (.seq (r [o 4 (.mv (i 1))] [4]) .ret) .skip))))) (.seq (r [o 4 (.mv (i 0))] [4]) .ret))),[.t 4]⟩
theorem ref03_order_ok : cFn Tryz.prog (kps [[0,1],[0,1,5],[4],[9],[4],[4]]) [] 93 = some ref03_order_c := by kernel_rfl
abbrev ref03_Compare : Nat := 64
def ref03_Compare_c : MFn := ⟨58,(.seq (r [o 2 (.box (.t 0)),o 3 (.box (.t 1)),o 4 (.mv (i 0))] [2,3]) (.seq (r [o 7 (.fA 0 (.t 2)),o 8 (.ld none (.t 7)),o 9 (.fA 0 (.t 3)),o 10 (.ld none (.t 9)),o 11 (.call 93 [(.t 8),(.t 10)]),o 5 (.mv (.t 11))] [2,3,5]) (.seq (.seq (r [o 12 (.mv (.t 5)),o 13 (.bin .eql (.t 12) (i 0))] [2,3,5,13]) (.cond (.t 13) (r [o 14 (.fA 1 (.t 2)),o 15 (.ld none (.t 14)),o 16 (.fA 1 (.t 3)),o 17 (.ld none (.t 16)),o 18 (.call 93 [(.t 15),(.t 17)]),o 5 (.mv (.t 18))] [2,3,5]) .skip)) (.seq (.seq (r [o 6 (.mv (i 0))] [2,3,5,6]) (.block 0 (.loop (.seq (.seq (r [o 19 (.mv (.t 5)),o 20 (.bin .eql (.t 19) (i 0)),o 21 (.mv (.t 20)),y 22 21 (.mv (.t 6)),y 23 21 (.fA 2 (.t 2)),y 24 21 (.ld none (.t 23)),y 25 21 (.lenS (.t 24)),y 26 21 (.bin .lss (.t 22) (.t 25)),o 27 (.pick (.t 21) (.t 26) (.c (.bool false))),o 28 (.mv (.t 27)),y 29 28 (.mv (.t 6)),y 30 28 (.fA 2 (.t 3)),y 31 28 (.ld none (.t 30)),y 32 28 (.lenS (.t 31)),y 33 28 (.bin .lss (.t 29) (.t 32)),o 34 (.pick (.t 28) (.t 33) (.c (.bool false)))] [2,3,5,6,34]) (.cond (.t 34) .skip (.exit 0))) (.seq (.block 1 (r [o 37 (.fA 2 (.t 2)),o 38 (.ld none (.t 37)),o 39 (.mv (.t 6)),o 40 (.ixA 3 (.t 38) (.t 39)),o 41 (.ld (some 3) (.t 40)),o 42 (.fA 2 (.t 3)),o 43 (.ld none (.t 42)),o 44 (.mv (.t 6)),o 45 (.ixA 3 (.t 43) (.t 44)),o 46 (.ld (some 3) (.t 45)),o 47 (.callF 64 [(.t 41),(.t 46)]),o 5 (.mv (.t 47))] [2,3,5,6])) (r [o 35 (.mv (.t 6)),o 36 (.bin .add (.t 35) (i 1)),o 6 (.mv (.t 36))] [2,3,5,6])))))) (.seq (.seq (r [o 48 (.mv (.t 5)),o 49 (.bin .eql (.t 48) (i 0))] [2,3,5,49]) (.cond (.t 49) (r [o 50 (.fA 2 (.t 2)),o 51 (.ld none (.t 50)),o 52 (.lenS (.t 51)),o 53 (.fA 2 (.t 3)),o 54 (.ld none (.t 53)),o 55 (.lenS (.t 54)),o 56 (.call 93 [(.t 52),(.t 55)]),o 5 (.mv (.t 56))] [5]) .skip)) (.seq (r [o 57 (.mv (.t 5)),o 4 (.mv (.t 57))] [4]) .ret)))))),[.t 4]⟩
theorem ref03_Compare_ok : cFn Tryz.prog (kps [[2,3],[2,3,5],[2,3,5,13],[2,3,5],[2,3,5,6],[2,3,5,6,34],[2,3,5,6],[2,3,5,6],[2,3,5,49],[5],[4]]) [] 64 = some ref03_Compare_c := by kernel_rfl
abbrev ref03_Same : Nat := 30
def ref03_Same_c : MFn := ⟨9,(.seq (r [o 2 (.box (.t 0)),o 3 (.box (.t 1)),o 4 (.mv (.c (.bool false)))] [2,3]) (.seq (r [o 5 (.ld (some 3) (.t 2)),o 6 (.ld (some 3) (.t 3)),o 7 (.call 64 [(.t 5),(.t 6)]),o 8 (.bin .eql (.t 7) (i 0)),o 4 (.mv (.t 8))] [4]) .ret)),[.t 4]⟩
theorem ref03_Same_ok : cFn Tryz.prog (kps [[2,3],[4]]) [] 30 = some ref03_Same_c := by kernel_rfl
end Go.Proofs.YtkockkfmjmheeaaGreat.F

namespace Go.Proofs.YtkockkfmjmheeaaGreat
open Go Go.Proofs Go.Proofs.YtkockkfmjmheeaaGreat.E
set_option linter.unusedSimpArgs false
set_option linter.unusedVariables false
def E.Tr.cells : Tr → List V
 | .mk k n l => [.int .i64 k, .int .i64 n, .dat (l.map fun x => x.cells)]
theorem cells_mk (k n : Int) (l : List Tr) : (Tr.mk k n l).cells = [.int .i64 k, .int .i64 n, .dat (l.map Tr.cells)] := by rw [Tr.cells]
@[simp] theorem cells_length (t : Tr) : t.cells.length = 3 := by cases t; rw [cells_mk]; rfl
@[simp] theorem cells_take (t : Tr) : t.cells.take 3 = t.cells := List.take_of_length_le (by simp)
abbrev tl (l : List Tr) : V := .dat (l.map Tr.cells)
theorem toD_one {σ : Sto} {n : Nat} {v : V} (h : ∀ n, toD σ (n + 1) v = some v) : toD σ (n + 1) v = some v := h n
theorem toD_clo (σ : Sto) (n : Nat) (f : Nat) (l : List V) : toD σ (n + 1) (.clo f l) = (mapO (toD σ n) l).map (.clo f) := (rfl)
theorem toD_cells (σ : Sto) (n : Nat) (t : Tr) : mapO (toD σ (n + 1)) t.cells = some t.cells := by
 cases t; rw [cells_mk]; simp
@[simp] theorem rch_cells (σ : Sto) (n : Nat) (t : Tr) : t.cells.flatMap (rch σ n) = [] := by
  cases t; rw [cells_mk]; simp
theorem cmp_isNaN (x : Int) : CallD Tryz.prog F.cmp_isNaN_int [.int .i64 x] (· = .bool false) := by
 refine callD_by F.cmp_isNaN_int_ok ?_
 unfold F.cmp_isNaN_int_c
 simp
theorem cmp_Compare (x y : Int) : CallD Tryz.prog F.cmp_Compare_int [.int .i64 x, .int .i64 y] (· = .int .i64 (cmpI x y)) := by
 refine callD_by F.cmp_Compare_int_ok ?_
 unfold F.cmp_Compare_int_c
 simp
 refine callK_of (cmp_isNaN x) (by simp) ?_
 simp
 refine callK_of (cmp_isNaN y) (by simp) ?_
 by_cases h : x < y
 ·simp [h, cmpI]
 ·by_cases h2 : y < x
  ·simp [h, h2, cmpI]
  ·simp [h, h2, cmpI]
theorem value_Compare : ∀ {a b : Tr}, a.Ok → b.Ok → CallD Tryz.prog F.value_Compare [.agg a.cells, .agg b.cells] (· = .int .i64 (cmpT a b)) := by
 intro a
 induction a using Tr.ind with
 | h k n l ih =>
   intro b ha hb
   cases b with
   | mk k' n' l' =>
     cases ha with
     | mk hk hn hl hc =>
       cases hb with
       | mk hk' hn' hl' hc' =>
         rw [cmpT_mk]
         have cmpf : CallD Tryz.prog F.slices_CompareFunc_Value_Value_Value_Value [tl l, tl l', .clo F.value_Compare []] (· = .int .i64 (cmpL l l')) := by
          refine callD_by F.slices_CompareFunc_Value_Value_Value_Value_ok ?_
          unfold F.slices_CompareFunc_Value_Value_Value_Value_c
          simp
          refine wm_loop (fun i : Nat => ((((((Sl.empty.set 13 (.int .i64 i)).set 12 (.int .i64 l.length)).set 11 (tl l)).set 2 (.clo F.value_Compare [])).set 1 (tl l')).set 0 (tl l), [])) (fun i => i ≤ l.length ∧ i ≤ l'.length ∧ cmpL l l' = cmpL (l.drop i) (l'.drop i)) (fun i => l.length - i) 0 ⟨by omega, by omega, by simp⟩ ?_ ?_
          ·refine weak_plain ?_ (by repeat (first | exact sin_empty | refine sin_set (by simp) ?_))
           repeat (first | exact sub_empty | refine sub_set (by simp) ?_)
          rintro i ⟨hi, hi', he⟩
          by_cases h1 : i < l.length
          ·by_cases h2 : i < l'.length
           ·have h2' : ¬ l'.length ≤ i := by omega
            have hstep := cmpL_step h1 h2
            simp [h1, h2, h2', setOb, List.filter_cons]
            refine ⟨_, _, ⟨rfl, rfl⟩, callK_of (ih l[i] (List.getElem_mem h1) (hc _ (List.getElem_mem h1)) (hc' _ (List.getElem_mem h2))) (by simp [toD_cells]) ?_⟩
            simp
            by_cases h0 : cmpT l[i] l'[i] = 0
            ·simp [h0, setOb, List.filter_cons]
             rw [wrap64 (by omega) (by omega)]
             refine ⟨i + 1, ⟨by omega, by omega, by rw [he, hstep]; simp [orI, h0]⟩, by dsimp only; omega, ?_⟩
             refine weak_plain ?_ (by repeat (first | exact sin_empty | refine sin_set (by simp) ?_))
             repeat (first | exact sub_empty | refine sub_set (by simp) ?_)
            ·simp [h0, setOb, List.filter_cons]
             rw [he, hstep]; simp [orI, h0]
           ·have h2' : l'.length ≤ i := by omega
            simp [h1, h2, h2', setOb, List.filter_cons]
            rw [he, List.drop_eq_nil_of_le h2', List.drop_eq_getElem_cons h1, cmpL]
          ·have h1' : l.length ≤ i := by omega
           simp [h1]
           by_cases h3 : l.length < l'.length
           ·simp [h3]
            rw [he, List.drop_eq_nil_of_le h1', List.drop_eq_getElem_cons (show i < l'.length by omega), cmpL]
            exact ⟨rfl, fun h => by omega⟩
           ·simp [h3]
            rw [he, List.drop_eq_nil_of_le h1', List.drop_eq_nil_of_le (by omega), cmpL]
            intro _; rfl
         refine callD_by F.value_Compare_ok ?_
         unfold F.value_Compare_c
         simp [cells_mk, setOb, List.filter_cons]
         refine callK_of (cmp_Compare k k') (by simp) ?_
         by_cases h1 : cmpI k k' = 0
         ·simp [h1]
          refine callK_of (cmp_Compare n n') (by simp) ?_
          by_cases h2 : cmpI n n' = 0
          ·simp [h2, orI]
           refine callK_of cmpf (by simp [toD_clo]) ?_
           simp
          ·simp [h2, orI]
         ·simp [h1, orI]
theorem ref03_order (x y : Int) : CallD Tryz.prog F.ref03_order [.int .i64 x, .int .i64 y] (· = .int .i64 (cmpI x y)) := by
 refine callD_by F.ref03_order_ok ?_
 unfold F.ref03_order_c
 by_cases h : x < y
 ·simp [h, cmpI]
 ·by_cases h2 : y < x
  ·simp [h, h2, cmpI]
  ·simp [h, h2, cmpI]
theorem E.weak_two {S1 S : Sl} {σ : Sto} {a b : Ob} (h1 : Sub S1 S) (h2 : look σ 0 = some a) (h3 : look σ 1 = some b) (h4 : SIn (fun x => x == 0 || x == 1) S1) (ha : ∀ r ∈ a.cells, ∀ y ∈ r, y.within (fun x => x == 0 || x == 1) = true) (hb : ∀ r ∈ b.cells, ∀ y ∈ r, y.within (fun x => x == 0 || x == 1) = true) : Weak [] S1 [(0, a), (1, b)] S σ := by
 have this : (fun q => (E.look [(0, a), (1, b)] q).isSome) = fun x => x == 0 || x == 1 := by
  funext q
  match q with
  | 0 => rfl
  | 1 => rfl
  | q + 2 => simp [E.look]
 refine weak_of h1 (fun x hx => ?_) (by simp) (by rw [this]; exact h4) (fun x hx _ => ?_)
 ·simp at hx; rcases hx with rfl | rfl <;> assumption
 ·rw [this]
  simp at hx; rcases hx with rfl | rfl <;> assumption
theorem cells_within {p : Nat → Bool} (t : Tr) : ∀ y ∈ t.cells, y.within p = true := by
 cases t; rw [cells_mk]; intro y hy; simp at hy; rcases hy with rfl | rfl | rfl <;> simp
theorem ref03_Compare : ∀ {a b : Tr}, a.Ok → b.Ok → CallD Tryz.prog F.ref03_Compare [.agg a.cells, .agg b.cells] (· = .int .i64 (cmpT a b)) := by
 intro a
 induction a using Tr.ind with
 | h k n l ih =>
   intro b ha hb
   cases b with
   | mk k' n' l' =>
     cases ha with
     | mk hk hn hl hc =>
       cases hb with
       | mk hk' hn' hl' hc' =>
         rw [cmpT_mk]
         refine callD_by F.ref03_Compare_ok ?_
         refine wm_cut 3 rfl fun R hR => ?_
         have rest : ∀ (c : Int), orI c (cmpL l l') = orI (cmpI k k') (orI (cmpI n n') (cmpL l l')) → ∀ {S : Sl} {σ : Sto}, S 2 = some (.ptr 0 0 0) → S 3 = some (.ptr 1 0 0) → S 5 = some (.int .i64 c) → E.look σ 0 = some ⟨.own, 3, [[.int .i64 k, .int .i64 n, tl l]]⟩ → E.look σ 1 = some ⟨.own, 3, [[.int .i64 k', .int .i64 n', tl l']]⟩ → WpM Tryz.prog [] R S σ (DoneD F.ref03_Compare_c.res (· = .int .i64 (orI (cmpI k k') (orI (cmpI n n') (cmpL l l'))))) := by
          intro c hcc S σ s2 s3 s5 o0 o1
          rw [← hcc, hR]
          unfold F.ref03_Compare_c
          simp [s2, s3, s5]
          refine wm_loop (fun g : Nat × Int => ((((Sl.empty.set 6 (.int .i64 g.1)).set 5 (.int .i64 g.2)).set 3 (.ptr 1 0 0)).set 2 (.ptr 0 0 0), [(0, ⟨.own, 3, [[.int .i64 k, .int .i64 n, tl l]]⟩), (1, ⟨.own, 3, [[.int .i64 k', .int .i64 n', tl l']]⟩)])) (fun g => g.1 ≤ l.length ∧ g.1 ≤ l'.length ∧ orI c (cmpL l l') = orI g.2 (cmpL (l.drop g.1) (l'.drop g.1))) (fun g => l.length - g.1) (0, c) ⟨by dsimp only; omega, by dsimp only; omega, by simp⟩ ?_ ?_
          ·refine E.weak_two ?_ o0 o1 (by repeat (first | exact sin_empty | refine sin_set (by simp) ?_)) ?_ ?_
           ·repeat (first | exact sub_empty | refine sub_set (by simp) ?_)
           ·simp
           ·simp
          rintro ⟨i, c⟩ ⟨hi, hi', he⟩
          dsimp only at hi hi' he
          rw [he]
          by_cases h0 : c = 0
          ·subst h0
           by_cases h1 : i < l.length
           ·by_cases h2 : i < l'.length
            ·have hstep := cmpL_step h1 h2
             simp [h1, h2]
             refine callFK_of (ih l[i] (List.getElem_mem h1) (hc _ (List.getElem_mem h1)) (hc' _ (List.getElem_mem h2))) (by simp [toD_cells]) ?_
             simp
             rw [wrap64 (by omega) (by omega)]
             refine ⟨(i + 1, cmpT l[i] l'[i]), ⟨by dsimp only; omega, by dsimp only; omega, by rw [hstep]; simp [orI]⟩, by dsimp only; omega, ?_⟩
             refine E.weak_two ?_ (by simp) (by simp) (by repeat (first | exact sin_empty | refine sin_set (by simp) ?_)) (by simp) (by simp)
             repeat (first | exact sub_empty | refine sub_set (by simp) ?_)
            ·have h2' : l'.length ≤ i := by omega
             simp [h1, h2, h2']
             refine callK_of (ref03_order l.length l'.length) (by simp) ?_
             rw [List.drop_eq_nil_of_le h2', List.drop_eq_getElem_cons h1, cmpL]
             have : cmpI l.length l'.length = 1 := by unfold cmpI; rw [if_neg (by omega), if_pos (by omega)]
             simp [this, orI]
           ·have h1' : l.length ≤ i := by omega
            simp [h1]
            refine callK_of (ref03_order l.length l'.length) (by simp) ?_
            rw [List.drop_eq_nil_of_le h1']
            by_cases h3 : l.length < l'.length
            ·rw [List.drop_eq_getElem_cons (show i < l'.length by omega), cmpL]
             have : cmpI l.length l'.length = -1 := by unfold cmpI; rw [if_pos (by omega)]
             simp [this, orI]
            ·rw [List.drop_eq_nil_of_le (show l'.length ≤ i by omega), cmpL]
             have : cmpI l.length l'.length = 0 := by unfold cmpI; rw [if_neg (by omega), if_neg (by omega)]
             simp [this, orI]
          ·simp [h0, orI]
         generalize hres : orI (cmpI k k') (orI (cmpI n n') (cmpL l l')) = res at *
         unfold F.ref03_Compare_c
         simp [cells_mk, setOb, List.filter_cons]
         refine callK_of (ref03_order k k') (by simp) ?_
         by_cases h1 : cmpI k k' = 0
         ·simp [h1]
          refine callK_of (ref03_order n n') (by simp) ?_
          simp
          exact rest (cmpI n n') (by rw [← hres]; simp [h1, orI]) (by simp) (by simp) (by simp) (by simp) (by simp)
         ·simp [h1]
          exact rest (cmpI k k') (by rw [← hres]; simp [h1, orI]) (by simp) (by simp) (by simp) (by simp) (by simp)
theorem ref03_Same {a b : Tr} (ha : a.Ok) (hb : b.Ok) : CallD Tryz.prog F.ref03_Same [.agg a.cells, .agg b.cells] (· = .bool (decide (cmpT a b = 0))) := by
 refine callD_by F.ref03_Same_ok ?_
 unfold F.ref03_Same_c
 simp [setOb, List.filter_cons]
 refine callK_of (ref03_Compare ha hb) (by simp [toD_cells]) ?_
 simp
def E.Ty.cells : Ty → List V
 | .mk k l => [.int .i64 k, .dat (l.map fun x => x.cells)]
theorem toD_grown {σ : Sto} {o n k es : Nat} {st : St} {l : List (List V)} (h : n ≠ 0 → E.look σ o = some ⟨st, es, l⟩) (hs : st ≠ .dead) (he : es ≠ 0) (hl : l.length = n) (hd : ∀ r ∈ l, mapO (toD σ k) r = some r) : toD σ (k + 1) (grown o n) = some (.dat l) := by
 by_cases h0 : n = 0
 ·subst h0
  have : l = [] := List.length_eq_zero_iff.1 hl
  subst this
  rfl
 ·rw [grown_pos h0]
  show (match getOb σ o with | some x => if 0 + n ≤ x.cells.length ∧ x.es ≠ 0 then (mapO (mapO (toD σ k)) ((x.cells.drop 0).take n)).map V.dat else none | none => none) = _
  simp only [getOb, h h0, hs, if_false]
  rw [if_pos ⟨by omega, he⟩, List.drop_zero, List.take_of_length_le (by omega), mapO_id hd]
  rfl
end Go.Proofs.YtkockkfmjmheeaaGreat
