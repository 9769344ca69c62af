import Derived.Test.YtmjgehbpcchjpaaGreatDoorHL
import Derived.Test.YtmjgehbpcchjpaaGreatDoorGC
import Derived.Test.YtmjgehbpcchjpaaGreatDoorProg
import Derived.KernelRfl
import Derived.Test.YtmjgehbpcchjpaaGreatDoorGG
namespace Go.Proofs.YtmjgehbpcchjpaaGreatDoor.F
open Go Go.Proofs Go.Proofs.YtmjgehbpcchjpaaGreatDoor.E Go.Proofs.YtmjgehbpcchjpaaGreatDoor.Q
abbrev own_Value : Nat := 121
def own_Value_c : MFn := ⟨8,(.seq (r [o 1 (.box (.t 0)),o 2 (.alloc zV)] [1,2]) (.seq (r [o 3 (.fA 2 (.t 1)),o 4 (.ld none (.t 3)),o 5 (.call 160 [(.t 4)]),o 6 (.fA 2 (.t 1)),z (.st 1 (.t 6) (.t 5))] [1,2]) (.seq (r [o 7 (.ld (some 3) (.t 1)),z (.st 3 (.t 2) (.t 7))] [2]) .ret))),[.cell 2 (some 3)]⟩
theorem own_Value_ok : cFn Tryz.prog (kps [[1,2],[1,2],[2]]) [] 121 = some own_Value_c := by kernel_rfl
abbrev own_Values : Nat := 160
def own_Values_c : MFn := ⟨19,(.seq (r [o 2 (.mv (.c .nils))] [0]) (.seq (r [o 3 (.mv (.c .nils))] [0,3]) (.seq (.seq (r [o 6 (.mv (.t 0)),o 7 (.lenS (.t 6)),o 8 (.mv (i 0))] [3,6,7,8]) (.block 0 (.loop (.seq (r [o 9 (.bin .lss (.t 8) (.t 7))] [3,6,7,8,9]) (.seq (.cond (.t 9) .skip (.exit 0)) (.seq (.block 1 (.seq (r [o 10 (.ixA 3 (.t 6) (.t 8)),o 11 (.ld (some 3) (.t 10)),o 5 (.alloc zV),z (.st 3 (.t 5) (.t 11))] [3,5,6,7,8]) (r [o 12 (.mv (.t 3)),o 13 (.ld (some 3) (.t 5)),o 14 (.call 121 [(.t 13)]),o 15 (.buildSl 3 1 zV [(0,(.t 14))]),o 16 (.app 3 40 (.t 12) (.t 15)),o 3 (.mv (.t 16))] [3,6,7,8]))) (r [o 17 (.bin .add (.t 8) (i 1)),o 8 (.mv (.t 17))] [3,6,7,8]))))))) (.seq (r [o 18 (.mv (.t 3)),o 2 (.mv (.t 18))] [2]) .ret)))),[.t 2]⟩
theorem own_Values_ok : cFn Tryz.prog (kps [[0],[0,3],[3,6,7,8],[3,6,7,8,9],[3,5,6,7,8],[3,6,7,8],[3,6,7,8],[2]]) [] 160 = some own_Values_c := by kernel_rfl
abbrev own_Ratio : Nat := 129
def own_Ratio_c : MFn := ⟨12,(.seq (r [o 1 (.box (.t 0)),o 2 (.alloc zR)] [1,2]) (.seq (r [o 3 (.fA 0 (.t 1)),o 4 (.ld none (.t 3)),o 5 (.fA 1 (.t 1)),o 6 (.ld none (.t 5)),o 7 (.callF 158 [(.t 6)]),o 8 (.fA 2 (.t 1)),o 9 (.ld none (.t 8)),o 10 (.callF 158 [(.t 9)]),o 11 (.build zR [(0,1,(.t 4)),(1,1,(.t 7)),(2,1,(.t 10))]),z (.st 3 (.t 2) (.t 11))] [2]) .ret)),[.cell 2 (some 3)]⟩
theorem own_Ratio_ok : cFn Tryz.prog (kps [[1,2],[2]]) [] 129 = some own_Ratio_c := by kernel_rfl
abbrev own_Parts : Nat := 87
def own_Parts_c : MFn := ⟨24,(.seq (r [o 2 (.mv (.c .nils))] [0]) (.seq (r [o 3 (.mv (.c .nils))] [0,3]) (.seq (.seq (r [o 6 (.mv (.t 0)),o 7 (.lenS (.t 6)),o 8 (.mv (i 0))] [3,6,7,8]) (.block 0 (.loop (.seq (r [o 9 (.bin .lss (.t 8) (.t 7))] [3,6,7,8,9]) (.seq (.cond (.t 9) .skip (.exit 0)) (.seq (.block 1 (.seq (r [o 10 (.ixA 6 (.t 6) (.t 8)),o 11 (.ld (some 6) (.t 10)),o 5 (.alloc zP),z (.st 6 (.t 5) (.t 11))] [3,5,6,7,8]) (r [o 12 (.mv (.t 3)),o 13 (.fA 0 (.t 5)),o 14 (.ld (some 3) (.t 13)),o 15 (.callF 121 [(.t 14)]),o 16 (.fA 3 (.t 5)),o 17 (.ld (some 3) (.t 16)),o 18 (.callF 129 [(.t 17)]),o 19 (.build zP [(0,3,(.t 15)),(3,3,(.t 18))]),o 20 (.buildSl 6 1 zP [(0,(.t 19))]),o 21 (.app 6 96 (.t 12) (.t 20)),o 3 (.mv (.t 21))] [3,6,7,8]))) (r [o 22 (.bin .add (.t 8) (i 1)),o 8 (.mv (.t 22))] [3,6,7,8]))))))) (.seq (r [o 23 (.mv (.t 3)),o 2 (.mv (.t 23))] [2]) .ret)))),[.t 2]⟩
theorem own_Parts_ok : cFn Tryz.prog (kps [[0],[0,3],[3,6,7,8],[3,6,7,8,9],[3,5,6,7,8],[3,6,7,8],[3,6,7,8],[2]]) [] 87 = some own_Parts_c := by kernel_rfl
abbrev own_Mass : Nat := 78
def own_Mass_c : MFn := ⟨28,(.seq (r [o 1 (.box (.t 0)),o 2 (.alloc zM)] [1,2]) (.seq (r [o 5 (.fA 0 (.t 1)),o 6 (.ld none (.t 5)),o 7 (.callF 87 [(.t 6)]),o 8 (.fA 1 (.t 1)),o 9 (.ld (some 3) (.t 8)),o 10 (.callF 129 [(.t 9)]),o 11 (.fA 4 (.t 1)),o 12 (.ld (some 3) (.t 11)),o 13 (.callF 129 [(.t 12)]),o 14 (.build zM [(0,1,(.t 7)),(1,3,(.t 10)),(4,3,(.t 13))]),o 3 (.alloc zM),z (.st 16 (.t 3) (.t 14))] [1,2,3]) (.seq (.seq (r [o 15 (.mv (i 0))] [1,2,3,15]) (.block 0 (.loop (.seq (r [o 16 (.bin .lss (.t 15) (i 3))] [1,2,3,15,16]) (.seq (.cond (.t 16) .skip (.exit 0)) (.seq (.block 1 (.seq (r [o 17 (.mv (.t 15)),o 4 (.mv (.t 17))] [1,2,3,4,15]) (r [o 18 (.mv (.t 4)),o 19 (.mv (.t 4)),o 20 (.fA 7 (.t 1)),o 21 (.ixArr 3 3 (.t 20) (.t 19)),o 22 (.ld (some 3) (.t 21)),o 23 (.call 129 [(.t 22)]),o 24 (.fA 7 (.t 3)),o 25 (.ixArr 3 3 (.t 24) (.t 18)),z (.st 3 (.t 25) (.t 23))] [1,2,3,15]))) (r [o 26 (.bin .add (.t 15) (i 1)),o 15 (.mv (.t 26))] [1,2,3,15]))))))) (.seq (r [o 27 (.ld (some 16) (.t 3)),z (.st 16 (.t 2) (.t 27))] [2]) .ret)))),[.cell 2 (some 16)]⟩
theorem own_Mass_ok : cFn Tryz.prog (kps [[1,2],[1,2,3],[1,2,3,15],[1,2,3,15,16],[1,2,3,4,15],[1,2,3,15],[1,2,3,15],[2]]) [] 78 = some own_Mass_c := by kernel_rfl
abbrev weights_None : Nat := 105
def weights_None_c : MFn := ⟨3,(.seq (r [o 0 (.alloc zM)] [0]) (.seq (r [o 1 (.build zM []),o 2 (.call 128 [(.t 1)]),z (.st 16 (.t 0) (.t 2))] [0]) .ret)),[.cell 0 (some 16)]⟩
theorem weights_None_ok : cFn Tryz.prog (kps [[0],[0]]) [] 105 = some weights_None_c := by kernel_rfl
end Go.Proofs.YtmjgehbpcchjpaaGreatDoor.F

namespace Go.Proofs.YtmjgehbpcchjpaaGreatDoor
open Go Go.Proofs Go.Proofs.YtmjgehbpcchjpaaGreatDoor.E
set_option linter.unusedSimpArgs false
set_option linter.unusedVariables false
theorem p8 {l : List Tr} (hl : l.length ≤ 1000000) (hv : ∀ t ∈ l, CallD Tryz.prog F.own_Value [.agg t.cells] (· = .agg t.cells)) : CallD Tryz.prog F.own_Values [tl l] (· = tl l) := by
 refine aB F.own_Values_ok ?_
 unfold F.own_Values_c
 simp [ag, List.filter_cons]
 refine aH (fun g : Nat × Nat => ((((Sl.empty.set 8 (.int .i64 g.2)).set 7 (.int .i64 l.length)).set 6 (tl l)).set 3 (bl g.1 g.2), cL g.1 3 g.2 ((l.map Tr.cells).take g.2)))
  (fun g => g.2 ≤ l.length) (fun g => l.length - g.2) (0, 0) (by simp) ?_ ?_
 ·refine aJ ?_ (by simp [aF, aP]) (by repeat (first | exact ac | refine ah (by simp [aF]) ?_)) (by simp [aF, aP])
  simp only [aF]
  repeat (first | exact af | refine aj (by simp) ?_)
 rintro ⟨o, i⟩ hi
 dsimp only at hi
 have hw : ∀ n, ∀ r ∈ List.take n (l.map Tr.cells), ∀ y ∈ r, ∀ p : Nat → Bool, y.within p = true := fun n r hr y hy p => by
  obtain ⟨x, _, rfl⟩ := List.mem_map.1 (List.mem_of_mem_take hr)
  exact cX _ y hy
 by_cases h1 : i < l.length
 ·have e1 : List.take (i + 1) (l.map Tr.cells) = List.take i (l.map Tr.cells) ++ [l[i].cells] := by
   rw [List.take_succ_eq_append_getElem (by simpa using h1)]; simp
  have hih := hv l[i] (List.getElem_mem h1)
  by_cases hi0 : i = 0
  ·subst hi0
   simp at e1
   simp [h1, aF, aP, ag, List.filter_cons]
   refine ai hih (by simp [ba]) ?_
   simp (disch := omega) [ag, List.filter_cons, Nat.max_eq_right, Nat.max_eq_left, if_neg, if_pos]
   rw [ap (by omega) (by omega)]
   refine ⟨(2, 1), h1, by dsimp only; omega, ?_⟩
   refine aJ ?_ ?_ (by simp only [ax (show 1 ≠ 0 by omega)]; repeat (first | exact ac | refine ah (by simp [ay]) ?_)) ?_
   ·simp only [ax (show 1 ≠ 0 by omega)]
    repeat (first | exact af | refine aj (by simp) ?_)
   ·simp [ay, e1]
   ·simp only [ay (show 1 ≠ 0 by omega)]
    intro p hp r hr y hy
    simp at hp; subst hp
    exact hw _ r hr y hy _
  ·simp (disch := omega) [h1, ax hi0, ay hi0, ag, List.filter_cons, Nat.max_eq_right, Nat.max_eq_left, if_neg, if_pos]
   refine ai hih (by simp [ba]) ?_
   simp (disch := omega) [ag, List.filter_cons, Nat.max_eq_right, Nat.max_eq_left, if_neg, if_pos]
   rw [ap (by omega) (by omega)]
   refine ⟨(o + 3, i + 1), h1, by dsimp only; omega, ?_⟩
   refine aJ ?_ ?_ (by simp only [ax (show i + 1 ≠ 0 by omega)]; repeat (first | exact ac | refine ah (by simp [ay]) ?_)) ?_
   ·simp only [ax (show i + 1 ≠ 0 by omega)]
    repeat (first | exact af | refine aj (by simp) ?_)
   ·simp [ay, e1]
   ·simp only [ay (show i + 1 ≠ 0 by omega)]
    intro p hp r hr y hy
    simp at hp; subst hp
    exact hw _ r hr y hy _
 ·have hil : i = l.length := by omega
  subst hil
  simp [h1]
  rw [cI (k := 11) (st := .own) (es := 3) (l := l.map Tr.cells) (fun h => by simp [ay h, E.look, List.take_of_length_le]) (by simp) (by simp) (by simp) (fun r hr => by obtain ⟨x, _, rfl⟩ := List.mem_map.1 hr; exact ba _ _ _)]
theorem gH : ∀ {v : Tr}, v.Ok → cQ v ≤ 1000000 → CallD Tryz.prog F.own_Value [.agg v.cells] (· = .agg v.cells) := by
 intro v
 induction v using Tr.ind with
 | h k n l ih =>
   intro hv hm
   rw [lQ] at hm
   have m1 := pA l
   cases hv with
   | mk hk hn hl hc =>
     refine aB F.own_Value_ok ?_
     unfold F.own_Value_c
     simp [ag, List.filter_cons, ct]
     refine ai (p8 (by omega) fun t ht => ih t ht (hc t ht) (by have := oF ht; omega)) (by simp) ?_
     simp [ag, List.filter_cons]
theorem dM {x : Raw} {k : Nat} (hx : x.Ok k) (hk : k ≤ 2 ^ 33) : CallD Tryz.prog F.own_Ratio [x.v] (· = x.v) := by
 have h1 := hx.ln
 have h2 := hx.ld
 refine aB F.own_Ratio_ok ?_
 unfold F.own_Ratio_c
 simp [ag, List.filter_cons, Raw.v]
 refine ak (dz (l := x.num) (by omega)) (by simp) ?_
 simp
 refine ak (dz (l := x.den) (by omega)) (by simp) ?_
 simp [ag, List.filter_cons]
theorem own_Parts {l : List Part} {k : Nat} (hk : k ≤ 2 ^ 33) (hl : l.length ≤ 1000000) (ho : ∀ p ∈ l, p.v.Ok ∧ cQ p.v ≤ 1000000 ∧ p.w.Ok k) : CallD Tryz.prog F.own_Parts [pl l] (· = pl l) := by
 refine aB F.own_Parts_ok ?_
 unfold F.own_Parts_c
 simp [ag, List.filter_cons]
 refine aH (fun g : Nat × Nat => ((((Sl.empty.set 8 (.int .i64 g.2)).set 7 (.int .i64 l.length)).set 6 (pl l)).set 3 (bl g.1 g.2), cL g.1 6 g.2 ((l.map aA).take g.2)))
  (fun g => g.2 ≤ l.length) (fun g => l.length - g.2) (0, 0) (by simp) ?_ ?_
 ·refine aJ ?_ (by simp [aF, aP]) (by repeat (first | exact ac | refine ah (by simp [aF]) ?_)) (by simp [aF, aP])
  simp only [aF]
  repeat (first | exact af | refine aj (by simp) ?_)
 rintro ⟨o, i⟩ hi
 dsimp only at hi
 have hw : ∀ n, ∀ r ∈ List.take n (l.map aA), ∀ y ∈ r, ∀ p : Nat → Bool, y.within p = true := fun n r hr y hy p => by
  obtain ⟨x, _, rfl⟩ := List.mem_map.1 (List.mem_of_mem_take hr)
  exact bn x y hy p
 by_cases h1 : i < l.length
 ·obtain ⟨o1, o2, o3⟩ := ho _ (List.getElem_mem h1)
  have e1 : List.take (i + 1) (l.map aA) = List.take i (l.map aA) ++ [aA l[i]] := by
   rw [List.take_succ_eq_append_getElem (by simpa using h1)]; simp
  have ed : (l[i].v.cells ++ [V.bool false, V.nils, V.nils]).drop 6 = [] := List.drop_eq_nil_of_le (by simp)
  have et3 : (l[i].v.cells ++ [V.bool false, V.nils, V.nils]).take 3 = l[i].v.cells := List.take_left' (by simp)
  have ep : l[i].v.cells ++ [V.bool l[i].w.neg, nat l[i].w.num, nat l[i].w.den] = aA l[i] := rfl
  by_cases hi0 : i = 0
  ·subst hi0
   simp at e1
   simp [h1, aF, aP, ag, List.filter_cons]
   refine ak (gH o1 o2) (by simp [ba]) ?_
   simp
   refine ak (dM o3 hk) (by simp [bq, bW]) ?_
   simp (disch := omega) [ag, List.filter_cons, Nat.max_eq_right, Nat.max_eq_left, if_neg, if_pos]
   simp (disch := omega) [ed, et3, ep, Raw.v, ag, List.filter_cons, Nat.max_eq_right, Nat.max_eq_left, if_neg, if_pos]
   rw [ap (by omega) (by omega)]
   refine ⟨(2, 1), h1, by dsimp only; omega, ?_⟩
   refine aJ ?_ ?_ (by simp only [ax (show 1 ≠ 0 by omega)]; repeat (first | exact ac | refine ah (by simp [ay]) ?_)) ?_
   ·simp only [ax (show 1 ≠ 0 by omega)]
    repeat (first | exact af | refine aj (by simp) ?_)
   ·simp [ay, e1, ep]
   ·simp only [ay (show 1 ≠ 0 by omega)]
    intro p hp r hr y hy
    simp at hp; subst hp
    exact hw _ r hr y hy _
  ·simp (disch := omega) [h1, ax hi0, ay hi0, ag, List.filter_cons, Nat.max_eq_right, Nat.max_eq_left, if_neg, if_pos]
   refine ak (gH o1 o2) (by simp [ba]) ?_
   simp
   refine ak (dM o3 hk) (by simp [bq, bW]) ?_
   simp (disch := omega) [ed, et3, ep, Raw.v, ag, List.filter_cons, Nat.max_eq_right, Nat.max_eq_left, if_neg, if_pos]
   rw [ap (by omega) (by omega)]
   refine ⟨(o + 3, i + 1), h1, by dsimp only; omega, ?_⟩
   refine aJ ?_ ?_ (by simp only [ax (show i + 1 ≠ 0 by omega)]; repeat (first | exact ac | refine ah (by simp [ay]) ?_)) ?_
   ·simp only [ax (show i + 1 ≠ 0 by omega)]
    repeat (first | exact af | refine aj (by simp) ?_)
   ·simp [ay, e1, ep]
   ·simp only [ay (show i + 1 ≠ 0 by omega)]
    intro p hp r hr y hy
    simp at hp; subst hp
    exact hw _ r hr y hy _
 ·have hil : i = l.length := by omega
  subst hil
  simp [h1]
  rw [cI (k := 11) (st := .own) (es := 6) (l := l.map aA) (fun h => by simp [ay h, E.look, List.take_of_length_le]) (by simp) (by simp) (by simp) (fun r hr => by obtain ⟨x, _, rfl⟩ := List.mem_map.1 hr; exact bG _ _ _)]
set_option maxHeartbeats 8000000 in
theorem own_Mass {m : Ms} {K : Nat} (hK : K ≤ 2 ^ 33) (hm : m.Ok K) (hl : m.parts.length ≤ 1000000) (hc : ∀ p ∈ m.parts, cQ p.v ≤ 1000000) : CallD Tryz.prog F.own_Mass [m.v] (· = m.v) := by
 refine aB F.own_Mass_ok ?_
 unfold F.own_Mass_c
 simp [ag, List.filter_cons, msC, am]
 refine ak (own_Parts (l := m.parts) hK hl fun p hp => ⟨(hm.parts p hp).1, hc p hp, (hm.parts p hp).2⟩) (by simp) ?_
 simp
 refine ak (dM hm.rf hK) (by simp [Raw.v]) ?_
 simp
 refine ak (dM hm.lo hK) (by simp [Raw.v]) ?_
 simp [Raw.v, ag, List.filter_cons]
 refine aH (fun g : Nat => ((((Sl.empty.set 15 (.int .i64 g)).set 3 (.ptr 2 0 0)).set 2 (.ptr 1 0 0)).set 1 (.ptr 0 0 0),
  [(2, ⟨.own, 16, [pl m.parts :: aQ m.rf m.lo m.f0 m.f1 m.f2 g]⟩), (1, ⟨.own, 16, [az]⟩), (0, ⟨.own, 16, [msC m]⟩)]))
  (fun g => g ≤ 3) (fun g => 3 - g) 0 (by omega) ?_ ?_
 ·refine aO ?_ ?_ (by simp) ?_ ?_
  ·repeat (first | exact af | refine aj (by simp) ?_)
  ·intro o x ho
   simpa [aQ, az, msC, am] using ho
  ·repeat (first | exact ac | refine ah (by simp [V.within, E.look]) ?_)
  ·refine aK (aK (aK dU (av (bS m))) (av bC)) (av (by simp [aQ, V.within]))
 intro g hg
 by_cases c : g < 3
 ·have hg3 : g = 0 ∨ g = 1 ∨ g = 2 := by omega
  rcases hg3 with rfl | rfl | rfl
  ·simp [aQ, msC, am, az]
   refine ai (dM hm.f0 hK) (by simp [Raw.v]) ?_
   simp [Raw.v, ag, List.filter_cons]
   rw [ap (by omega) (by omega)]
   refine ⟨1, by omega, by dsimp only; omega, ?_⟩
   refine aO ?_ ?_ (by simp) ?_ (aK (aK (aK dU (av (by simp [V.within]))) (av (by simp [V.within]))) (av (by simp [V.within])))
   ·repeat (first | exact af | refine aj (by simp) ?_)
   ·intro o x ho
    simpa [aQ, az, msC, am] using ho
   ·repeat (first | exact ac | refine ah (by simp [V.within, E.look]) ?_)
  ·simp [aQ, msC, am, az]
   refine ai (dM hm.f1 hK) (by simp [Raw.v]) ?_
   simp [Raw.v, ag, List.filter_cons]
   rw [ap (by omega) (by omega)]
   refine ⟨2, by omega, by dsimp only; omega, ?_⟩
   refine aO ?_ ?_ (by simp) ?_ (aK (aK (aK dU (av (by simp [V.within]))) (av (by simp [V.within]))) (av (by simp [V.within])))
   ·repeat (first | exact af | refine aj (by simp) ?_)
   ·intro o x ho
    simpa [aQ, az, msC, am] using ho
   ·repeat (first | exact ac | refine ah (by simp [V.within, E.look]) ?_)
  ·simp [aQ, msC, am, az]
   refine ai (dM hm.f2 hK) (by simp [Raw.v]) ?_
   simp [Raw.v, ag, List.filter_cons]
   rw [ap (by omega) (by omega)]
   refine ⟨3, by omega, by dsimp only; omega, ?_⟩
   refine aO ?_ ?_ (by simp) ?_ (aK (aK (aK dU (av (by simp [V.within]))) (av (by simp [V.within]))) (av (by simp [V.within])))
   ·repeat (first | exact af | refine aj (by simp) ?_)
   ·intro o x ho
    simpa [aQ, az, msC, am] using ho
   ·repeat (first | exact ac | refine ah (by simp [V.within, E.look]) ?_)
 have hg3 : g = 3 := by omega
 subst hg3
 simp [aQ, az, am, msC, ag, List.filter_cons]
def r00 : Raw := ⟨false, [], []⟩
theorem r00_q : r00.q = 0 := Raw.q_zero_num (x := r00) rfl
theorem mW {k : Nat} : r00.Ok k := ⟨Dig.nil, Dig.nil, Nat.zero_le _, Nat.zero_le _⟩
def ms0 : Ms := ⟨[], r00, r00, r00, r00, r00⟩
def msN : Ms := ⟨[], ao 0, ao 0, ao 0, ao 0, ao 0⟩
theorem ms0_ok {k : Nat} : ms0.Ok k := ⟨by simp [ms0], mW, mW, mW, mW, mW⟩
theorem sJ : aI ms0 = msN := by simp [aI, ms0, msN, r00_q]; rfl
theorem weights_None : CallD Tryz.prog F.weights_None [] (· = msN.v) := by
 refine aB F.weights_None_ok ?_
 unfold F.weights_None_c
 simp [ag, List.filter_cons]
 have := i9 (m := ms0) rfl (K := 1) (by omega) ms0_ok
 rw [sJ] at this
 refine ai this (by simp [ms0, msC, am, r00]) ?_
 simp [ag, List.filter_cons, msN, msC, am]
theorem f9 (σ : Sto) (n : Nat) (p : Part) : (aA p).flatMap (rch σ n) = [] := by
 unfold aA; cases p.v with | mk k m l => simp [ct]
theorem fi {σ : Sto} {o n k es : Nat} {st : St} {l : List (List V)} (h : aM σ o = some ⟨st, es, l⟩) (hl : l.length = n) (hr : ∀ r ∈ l, r.flatMap (rch σ k) = []) : rch σ (k + 1) (.ref o 0 n) = [o] := by
 show (match aM σ o with | some x => o :: ((x.cells.drop 0).take n).flatMap (fun r => r.flatMap (rch σ k)) | none => []) = [o]
 rw [h]
 have e : List.flatMap (fun r => List.flatMap (rch σ k) r) ((List.drop 0 l).take n) = [] := by
  rw [List.flatMap_eq_nil_iff]
  intro r h1
  rw [List.drop_zero, List.take_of_length_le (by omega)] at h1
  exact hr r h1
 show o :: List.flatMap (fun r => List.flatMap (rch σ k) r) ((List.drop 0 l).take n) = [o]
 rw [e]
theorem kn {σ : Sto} {o n k es : Nat} {st : St} {l : List (List V)} (h : aM σ o = some ⟨st, es, l⟩) (he : es ≠ 0) (hl : l.length = n) (hd : ∀ r ∈ l, bo (toD σ k) r = some r) : toD σ (k + 1) (.ref o 0 n) = some (.dat l) := by
 show (match aM σ o with | some x => if 0 + n ≤ x.cells.length ∧ x.es ≠ 0 then (bo (bo (toD σ k)) ((x.cells.drop 0).take n)).map V.dat else none | none => none) = _
 rw [h]
 subst hl
 simp only [Nat.zero_add, Nat.le_refl, true_and, List.drop_zero, List.take_length, if_pos he]
 have : bo (bo (toD σ k)) l = some l := by
  induction l with
  | nil => rfl
  | cons a l ih =>
    have h1 := hd a (by simp)
    clear h
    have h2 : bo (bo (toD σ k)) l = some l := by
     clear ih
     induction l with
     | nil => rfl
     | cons b l ih2 =>
       simp only [bo, hd b (by simp), ih2 (fun r hr => hd r (by
        rcases List.mem_cons.1 hr with rfl | hr
        ·simp
        ·simp [hr]))]
    simp only [bo, h1, h2]
 rw [this]; rfl
def nC (k n : Int) (v : Tr) : V := .agg (.int .i64 k :: .int .i64 n :: v.cells)
theorem j5 {m : Ms} {K K' : Nat} (hK : 1 ≤ K) (hm : m.Ok K) (h : 1 + m.parts.length * (K + 1) ≤ K') (h2 : K ≤ K') : (aI m).Ok K' := by
 have fr : ∀ {x : Raw}, x.Ok K → (ao x.q).Ok K' := fun hx => bw ((Raw.fits hx hK).mono h2)
 refine ⟨fun p hp => ?_, fr hm.rf, fr hm.lo, fr hm.f0, fr hm.f1, fr hm.f2⟩
 obtain ⟨q, hq, e⟩ := cf hp
 refine ⟨e ▸ (hm.parts q hq).1, ?_⟩
 rw [(j6 hp).1]
 exact bw ((gj hK (fun x hx => Raw.fits (hm.parts x hx).2 hK) _).mono h)
theorem dS (m : Ms) : (aI m).parts.length ≤ m.parts.length := dT _
theorem iI {m : Ms} {B : Nat} (h : ∀ p ∈ m.parts, cQ p.v ≤ B) : ∀ p ∈ (aI m).parts, cQ p.v ≤ B := fun p hp => by
 obtain ⟨q, hq, e⟩ := cf hp
 rw [← e]; exact h q hq
end Go.Proofs.YtmjgehbpcchjpaaGreatDoor
