import Derived.Test.YtmjgehbpcchjpaaGreatDoorHV
import Derived.Test.YtmjgehbpcchjpaaGreatDoorHO
import Derived.Test.YtmjgehbpcchjpaaGreatDoorGL
namespace Go.Proofs.YtmjgehbpcchjpaaGreatDoor.F
open Go Go.Proofs Go.Proofs.YtmjgehbpcchjpaaGreatDoor.E Go.Proofs.YtmjgehbpcchjpaaGreatDoor.Q
abbrev weights_Same_1 : Nat := 139
def weights_Same_1_c : MFn := ⟨17,(.seq (r [o 2 (.box (.t 0)),o 3 (.box (.t 1)),o 4 (.mv (.c (.bool false)))] [2,3]) (.seq (r [o 5 (.fA 0 (.t 2)),o 6 (.ld (some 3) (.t 5)),o 7 (.fA 0 (.t 3)),o 8 (.ld (some 3) (.t 7)),o 9 (.call 140 [(.t 6),(.t 8)]),o 10 (.mv (.t 9)),y 11 10 (.fA 3 (.t 2)),y 12 10 (.ld (some 3) (.t 11)),y 13 10 (.fA 3 (.t 3)),y 14 10 (.ld (some 3) (.t 13)),y 15 10 (.call 41 [(.t 12),(.t 14)]),o 16 (.pick (.t 10) (.t 15) (.c (.bool false))),o 4 (.mv (.t 16))] [4]) .ret)),[.t 4]⟩
theorem weights_Same_1_ok : cFn Tryz.prog (kps [[2,3],[4]]) [] 139 = some weights_Same_1_c := by kernel_rfl
abbrev slices_EqualFunc_Part_Part_Part_Part : Nat := 138
def slices_EqualFunc_Part_Part_Part_Part_c : MFn := ⟨32,(.seq (r [o 6 (.mv (.c (.bool false)))] [0,1,2]) (.seq (.seq (r [o 10 (.mv (.t 0)),o 11 (.lenS (.t 10)),o 12 (.mv (.t 1)),o 13 (.lenS (.t 12)),o 14 (.bin .neq (.t 11) (.t 13))] [0,1,2,14]) (.cond (.t 14) (.seq (r [o 6 (.mv (.c (.bool false)))] [6]) .ret) .skip)) (.seq (.seq (r [o 15 (.mv (.t 0)),o 16 (.lenS (.t 15)),o 17 (.mv (i 0))] [1,2,15,16,17]) (.block 0 (.loop (.seq (r [o 18 (.bin .lss (.t 17) (.t 16))] [1,2,15,16,17,18]) (.seq (.cond (.t 18) .skip (.exit 0)) (.seq (.block 1 (.seq (r [o 19 (.mv (.t 17)),o 20 (.ixA 6 (.t 15) (.t 17)),o 21 (.ld (some 6) (.t 20)),o 8 (.alloc zP),o 7 (.mv (.t 19)),z (.st 6 (.t 8) (.t 21))] [1,2,7,8,15,16,17]) (.seq (r [o 22 (.mv (.t 1)),o 23 (.mv (.t 7)),o 24 (.ixA 6 (.t 22) (.t 23)),o 25 (.ld (some 6) (.t 24)),o 9 (.alloc zP),z (.st 6 (.t 9) (.t 25))] [1,2,8,9,15,16,17]) (.seq (r [o 26 (.mv (.t 2)),o 27 (.ld (some 6) (.t 8)),o 28 (.ld (some 6) (.t 9)),o 29 (.callV (.t 26) [(.t 27),(.t 28)]),o 30 (.un .not (.t 29))] [1,2,15,16,17,30]) (.cond (.t 30) (.seq (r [o 6 (.mv (.c (.bool false)))] [6]) .ret) .skip))))) (r [o 31 (.bin .add (.t 17) (i 1)),o 17 (.mv (.t 31))] [1,2,15,16,17]))))))) (.seq (r [o 6 (.mv (.c (.bool true)))] [6]) .ret)))),[.t 6]⟩
theorem slices_EqualFunc_Part_Part_Part_Part_ok : cFn Tryz.prog (kps [[0,1,2],[0,1,2,14],[6],[1,2,15,16,17],[1,2,15,16,17,18],[1,2,7,8,15,16,17],[1,2,8,9,15,16,17],[1,2,15,16,17,30],[6],[1,2,15,16,17],[6]]) [] 138 = some slices_EqualFunc_Part_Part_Part_Part_c := by kernel_rfl
abbrev weights_Same : Nat := 93
def weights_Same_c : MFn := ⟨43,(.seq (r [o 2 (.box (.t 0)),o 3 (.box (.t 1)),o 4 (.mv (.c (.bool false)))] [2,3]) (.seq (r [o 6 (.ld (some 16) (.t 2)),o 7 (.callF 128 [(.t 6)]),o 8 (.ld (some 16) (.t 3)),o 9 (.callF 128 [(.t 8)]),z (.st 16 (.t 2) (.t 7)),z (.st 16 (.t 3) (.t 9))] [2,3]) (.seq (.seq (r [o 10 (.mv (i 0))] [2,3,10]) (.block 0 (.loop (.seq (r [o 11 (.bin .lss (.t 10) (i 3))] [2,3,10,11]) (.seq (.cond (.t 11) .skip (.exit 0)) (.seq (.block 1 (.seq (r [o 12 (.mv (.t 10)),o 5 (.mv (.t 12))] [2,3,5,10]) (.seq (r [o 13 (.mv (.t 5)),o 14 (.fA 7 (.t 2)),o 15 (.ixArr 3 3 (.t 14) (.t 13)),o 16 (.ld (some 3) (.t 15)),o 17 (.mv (.t 5)),o 18 (.fA 7 (.t 3)),o 19 (.ixArr 3 3 (.t 18) (.t 17)),o 20 (.ld (some 3) (.t 19)),o 21 (.callF 41 [(.t 16),(.t 20)]),o 22 (.un .not (.t 21))] [2,3,10,22]) (.cond (.t 22) (.seq (r [o 4 (.mv (.c (.bool false)))] [4]) .ret) .skip)))) (r [o 23 (.bin .add (.t 10) (i 1)),o 10 (.mv (.t 23))] [2,3,10]))))))) (.seq (r [o 24 (.fA 1 (.t 2)),o 25 (.ld (some 3) (.t 24)),o 26 (.fA 1 (.t 3)),o 27 (.ld (some 3) (.t 26)),o 28 (.call 41 [(.t 25),(.t 27)]),o 29 (.mv (.t 28)),y 30 29 (.fA 4 (.t 2)),y 31 29 (.ld (some 3) (.t 30)),y 32 29 (.fA 4 (.t 3)),y 33 29 (.ld (some 3) (.t 32)),y 34 29 (.call 41 [(.t 31),(.t 33)]),o 35 (.pick (.t 29) (.t 34) (.c (.bool false))),o 36 (.mv (.t 35)),y 37 36 (.fA 0 (.t 2)),y 38 36 (.ld none (.t 37)),y 39 36 (.fA 0 (.t 3)),y 40 36 (.ld none (.t 39)),y 41 36 (.call 138 [(.t 38),(.t 40),(.c (.clo 139 []))]),o 42 (.pick (.t 36) (.t 41) (.c (.bool false))),o 4 (.mv (.t 42))] [4]) .ret)))),[.t 4]⟩
theorem weights_Same_ok : cFn Tryz.prog (kps [[2,3],[2,3],[2,3,10],[2,3,10,11],[2,3,5,10],[2,3,10,22],[4],[2,3,10],[4]]) [] 93 = some weights_Same_c := by kernel_rfl
abbrev mass_Same : Nat := 31
def mass_Same_c : MFn := ⟨8,(.seq (r [o 2 (.box (.t 0)),o 3 (.box (.t 1)),o 4 (.mv (.c (.bool false)))] [2,3]) (.seq (r [o 5 (.ld (some 16) (.t 2)),o 6 (.ld (some 16) (.t 3)),o 7 (.call 93 [(.t 5),(.t 6)]),o 4 (.mv (.t 7))] [4]) .ret)),[.t 4]⟩
theorem mass_Same_ok : cFn Tryz.prog (kps [[2,3],[4]]) [] 31 = some mass_Same_c := by kernel_rfl
end Go.Proofs.YtmjgehbpcchjpaaGreatDoor.F

namespace Go.Proofs.YtmjgehbpcchjpaaGreatDoor
open Go Go.Proofs Go.Proofs.YtmjgehbpcchjpaaGreatDoor.E
set_option linter.unusedSimpArgs false
set_option linter.unusedVariables false
theorem weights_Same_1 {p : Part} (hv : p.v.Ok) (hw : p.w.Ok (2 ^ 33)) : CallD Tryz.prog F.weights_Same_1 [.agg (aA p), .agg (aA p)] (· = .bool true) := by
 refine aB F.weights_Same_1_ok ?_
 unfold F.weights_Same_1_c
 have e3 : List.take 3 (aA p) = p.v.cells := by unfold aA; exact List.take_left' (by simp)
 have d3 : List.drop 3 (aA p) = p.w.c := by unfold aA; exact List.drop_left' (by simp)
 simp [ag, List.filter_cons]
 refine ai (value_Same hv hv) (by simp [ba]) ?_
 simp
 refine ai (ratio_Same hw hw) (by simp [bq, bW]) ?_
 simp
abbrev samC : V := .clo F.weights_Same_1 []
@[simp] theorem toD_samC (σ : Sto) : toD σ 12 samC = some samC := (rfl)
theorem qT {l : List Part} (hl : l.length ≤ 1000000) (ho : ∀ p ∈ l, p.v.Ok ∧ p.w.Ok (2 ^ 33)) : CallD Tryz.prog F.slices_EqualFunc_Part_Part_Part_Part [pl l, pl l, .clo F.weights_Same_1 []] (· = .bool true) := by
 refine aB F.slices_EqualFunc_Part_Part_Part_Part_ok ?_
 unfold F.slices_EqualFunc_Part_Part_Part_Part_c
 simp
 refine aH (fun g : Nat => (((((Sl.empty.set 17 (.int .i64 g)).set 16 (.int .i64 l.length)).set 15 (pl l)).set 2 (.clo F.weights_Same_1 [])).set 1 (pl l), [])) (fun g => g ≤ l.length) (fun g => l.length - g) 0 (by omega) ?_ ?_
 ·exact bU (by repeat (first | exact af | refine aj (by simp) ?_)) (by repeat (first | exact ac | refine ah (by simp) ?_))
 intro i hi
 by_cases h1 : i < l.length
 ·obtain ⟨okv, okw⟩ := ho _ (List.getElem_mem h1)
  have tk : List.take 6 (aA l[i]) = aA l[i] := by simp
  simp [h1, tk, ag, List.filter_cons]
  refine ⟨_, _, ⟨rfl, rfl⟩, ai (weights_Same_1 okv okw) (by simp [bG]) ?_⟩
  simp
  rw [ap (by omega) (by omega)]
  refine ⟨i + 1, h1, by dsimp only; omega, ?_⟩
  exact bU (by repeat (first | exact af | refine aj (by simp) ?_)) (by repeat (first | exact ac | refine ah (by simp) ?_))
 ·simp [h1]
set_option maxHeartbeats 8000000 in
theorem weights_Same {m n : Ms} {K : Nat} (hK : 1 ≤ K) (hb : K ≤ 1000000) (hm : m.Ok K) (hn : n.Ok K) (lm : m.parts.length ≤ 1000) (ln : n.parts.length ≤ 1000) (he : aI m = aI n) : CallD Tryz.prog F.weights_Same [m.v, n.v] (· = .bool true) := by
 have p1 : m.parts.length * (K + 1) ≤ 1000 * 1000001 := Nat.mul_le_mul lm (by omega)
 have p2 : n.parts.length * (K + 1) ≤ 1000 * 1000001 := Nat.mul_le_mul ln (by omega)
 have cm := dj hK (by omega) hm (by omega) (by omega)
 have cn := dj hK (by omega) hn (by omega) (by omega)
 rw [← he] at cn
 have ok := j5 (K := K) hK hm (K' := 2 ^ 30) (by omega) (by omega)
 have len := dS m
 refine aB F.weights_Same_ok ?_
 unfold F.weights_Same_c
 simp [ag, List.filter_cons, msC, am]
 refine ak cm (by simp [msC, am]) ?_
 simp [msC, am]
 refine ak cn (by simp [msC, am]) ?_
 generalize aI m = a at *
 simp [msC, am, ag, List.filter_cons]
 have rs : ∀ {x : Raw}, x.Ok (2 ^ 30) → CallD Tryz.prog F.ratio_Same [x.v, x.v] (· = .bool true) := fun {x} hx => by
  have := ratio_Same (rok hx (show 2 ^ 30 ≤ 2 ^ 33 by omega)) (rok hx (show 2 ^ 30 ≤ 2 ^ 33 by omega))
  simpa using this
 refine aH (fun g : Nat => (((Sl.empty.set 10 (.int .i64 g)).set 3 (.ptr 1 0 0)).set 2 (.ptr 0 0 0), [(1, ⟨.own, 16, [msC a]⟩), (0, ⟨.own, 16, [msC a]⟩)])) (fun g => g ≤ 3) (fun g => 3 - g) 0 (by omega) ?_ ?_
 ·refine aJ ?_ (by simp [am, msC]) (by repeat (first | exact ac | refine ah (by simp) ?_)) (by simp [am, msC])
  repeat (first | exact af | refine aj (by simp) ?_)
 intro g hg
 by_cases c : g < 3
 ·have hg3 : g = 0 ∨ g = 1 ∨ g = 2 := by omega
  rcases hg3 with e | e | e
  ·subst e
   simp [am, msC, ag, List.filter_cons]
   refine ak (rs ok.f0) (by simp [Raw.v]) ?_
   simp
   rw [ap (by omega) (by omega)]
   refine ⟨1, by omega, by dsimp only; omega, ?_⟩
   refine aJ ?_ (by simp [am, msC]) (by repeat (first | exact ac | refine ah (by simp) ?_)) (by simp [am, msC])
   repeat (first | exact af | refine aj (by simp) ?_)
  ·subst e
   simp [am, msC, ag, List.filter_cons]
   refine ak (rs ok.f1) (by simp [Raw.v]) ?_
   simp
   rw [ap (by omega) (by omega)]
   refine ⟨2, by omega, by dsimp only; omega, ?_⟩
   refine aJ ?_ (by simp [am, msC]) (by repeat (first | exact ac | refine ah (by simp) ?_)) (by simp [am, msC])
   repeat (first | exact af | refine aj (by simp) ?_)
  ·subst e
   simp [am, msC, ag, List.filter_cons]
   refine ak (rs ok.f2) (by simp [Raw.v]) ?_
   simp
   rw [ap (by omega) (by omega)]
   refine ⟨3, by omega, by dsimp only; omega, ?_⟩
   refine aJ ?_ (by simp [am, msC]) (by repeat (first | exact ac | refine ah (by simp) ?_)) (by simp [am, msC])
   repeat (first | exact af | refine aj (by simp) ?_)
 ·have e : g = 3 := by omega
  subst e
  simp [am, msC, ag, List.filter_cons]
  refine ai (rs ok.rf) (by simp [Raw.v]) ?_
  simp
  refine ai (rs ok.lo) (by simp [Raw.v]) ?_
  simp
  refine ai (qT (l := a.parts) (by omega) (fun p hp => ⟨(ok.parts p hp).1, rok (ok.parts p hp).2 (by omega)⟩)) (by simp) ?_
  simp
theorem mass_Same {m n : Ms} {K : Nat} (hK : 1 ≤ K) (hb : K ≤ 1000000) (hm : m.Ok K) (hn : n.Ok K) (lm : m.parts.length ≤ 1000) (ln : n.parts.length ≤ 1000) (he : aI m = aI n) : CallD Tryz.prog F.mass_Same [m.v, n.v] (· = .bool true) := by
 refine aB F.mass_Same_ok ?_
 unfold F.mass_Same_c
 simp [ag, List.filter_cons, msC, am]
 refine ai (weights_Same hK hb hm hn lm ln he) (by simp [msC, am]) ?_
 simp
structure Eqv (x y : Ms) : Prop where
 w : ∀ v, aU x.parts v = aU y.parts v
 rf : x.rf.q = y.rf.q
 lo : x.lo.q = y.lo.q
 f0 : x.f0.q = y.f0.q
 f1 : x.f1.q = y.f1.q
 f2 : x.f2.q = y.f2.q
theorem sI {x y : Ms} (h : Eqv x y) : aI x = aI y := by
 unfold aI
 rw [n7 h.w, h.rf, h.lo, h.f0, h.f1, h.f2]
theorem jz (m : Ms) (v : Tr) : aU (aI m).parts v = aU m.parts v := rz _ _
theorem tt (m n : Ms) (v : Tr) : aU (fm m n).parts v = aU m.parts v + aU n.parts v := eL _ _ _
theorem normM_rf (m : Ms) : (aI m).rf.q = m.rf.q := be _
theorem normM_lo (m : Ms) : (aI m).lo.q = m.lo.q := be _
theorem normM_f0 (m : Ms) : (aI m).f0.q = m.f0.q := be _
theorem normM_f1 (m : Ms) : (aI m).f1.q = m.f1.q := be _
theorem normM_f2 (m : Ms) : (aI m).f2.q = m.f2.q := be _
theorem addM_rf (m n : Ms) : (fm m n).rf.q = m.rf.q + n.rf.q := be _
theorem addM_lo (m n : Ms) : (fm m n).lo.q = m.lo.q + n.lo.q := be _
theorem addM_f0 (m n : Ms) : (fm m n).f0.q = m.f0.q + n.f0.q := be _
theorem addM_f1 (m n : Ms) : (fm m n).f1.q = m.f1.q + n.f1.q := be _
theorem addM_f2 (m n : Ms) : (fm m n).f2.q = m.f2.q + n.f2.q := be _
end Go.Proofs.YtmjgehbpcchjpaaGreatDoor
