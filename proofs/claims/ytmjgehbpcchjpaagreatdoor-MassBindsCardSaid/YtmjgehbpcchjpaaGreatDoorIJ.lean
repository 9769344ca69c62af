import Derived.Test.YtmjgehbpcchjpaaGreatDoorID
import Derived.Test.YtmjgehbpcchjpaaGreatDoorHT
namespace Go.Proofs.YtmjgehbpcchjpaaGreatDoor.F
open Go Go.Proofs Go.Proofs.YtmjgehbpcchjpaaGreatDoor.E Go.Proofs.YtmjgehbpcchjpaaGreatDoor.Q
abbrev ref04_comes : Nat := 82
def ref04_comes_c : MFn := ⟨33,(.seq (r [o 1 (.box (.t 0)),o 2 (.alloc zM)] [1,2]) (.seq (r [o 5 (.call 49 []),o 3 (.alloc zM),z (.st 16 (.t 3) (.t 5))] [1,2,3]) (.seq (r [o 6 (.ld (some 16) (.t 1)),o 7 (.call 89 [(.t 6)]),o 8 (.fA 0 (.t 3)),z (.st 1 (.t 8) (.t 7))] [1,2,3]) (.seq (r [o 9 (.fA 1 (.t 1)),o 10 (.ld (some 3) (.t 9)),o 11 (.callF 113 []),o 12 (.callF 81 [(.t 10),(.t 11)]),o 13 (.fA 1 (.t 3)),z (.st 3 (.t 13) (.t 12))] [1,2,3]) (.seq (r [o 14 (.fA 4 (.t 1)),o 15 (.ld (some 3) (.t 14)),o 16 (.callF 113 []),o 17 (.callF 81 [(.t 15),(.t 16)]),o 18 (.fA 4 (.t 3)),z (.st 3 (.t 18) (.t 17))] [1,2,3]) (.seq (.seq (r [o 4 (.mv (i 0))] [1,2,3,4]) (.block 0 (.loop (.seq (.seq (r [o 19 (.mv (.t 4)),o 20 (.bin .lss (.t 19) (i 3))] [1,2,3,4,20]) (.cond (.t 20) .skip (.exit 0))) (.seq (.block 1 (r [o 23 (.mv (.t 4)),o 24 (.mv (.t 4)),o 25 (.fA 7 (.t 1)),o 26 (.ixArr 3 3 (.t 25) (.t 24)),o 27 (.ld (some 3) (.t 26)),o 28 (.callF 113 []),o 29 (.callF 81 [(.t 27),(.t 28)]),o 30 (.fA 7 (.t 3)),o 31 (.ixArr 3 3 (.t 30) (.t 23)),z (.st 3 (.t 31) (.t 29))] [1,2,3,4])) (r [o 21 (.mv (.t 4)),o 22 (.bin .add (.t 21) (i 1)),o 4 (.mv (.t 22))] [1,2,3,4])))))) (.seq (r [o 32 (.ld (some 16) (.t 3)),z (.st 16 (.t 2) (.t 32))] [2]) .ret))))))),[.cell 2 (some 16)]⟩
theorem ref04_comes_ok : cFn Tryz.prog (kps [[1,2],[1,2,3],[1,2,3],[1,2,3],[1,2,3],[1,2,3,4],[1,2,3,4,20],[1,2,3,4],[1,2,3,4],[2]]) [] 82 = some ref04_comes_c := by kernel_rfl
abbrev ref04_Add : Nat := 21
def ref04_Add_c : MFn := ⟨44,(.seq (r [o 2 (.box (.t 0)),o 3 (.box (.t 1)),o 4 (.alloc zM)] [2,3,4]) (.seq (r [o 7 (.fA 1 (.t 2)),o 8 (.ld (some 3) (.t 7)),o 9 (.fA 1 (.t 3)),o 10 (.ld (some 3) (.t 9)),o 11 (.callF 81 [(.t 8),(.t 10)]),o 12 (.fA 4 (.t 2)),o 13 (.ld (some 3) (.t 12)),o 14 (.fA 4 (.t 3)),o 15 (.ld (some 3) (.t 14)),o 16 (.callF 81 [(.t 13),(.t 15)]),o 17 (.build zM [(1,3,(.t 11)),(4,3,(.t 16))]),o 5 (.alloc zM),z (.st 16 (.t 5) (.t 17))] [2,3,4,5]) (.seq (r [o 19 (.fA 0 (.t 2)),o 20 (.ld none (.t 19)),o 22 (.fA 0 (.t 3)),o 23 (.ld none (.t 22)),o 18 (.buildSl 6 0 zP []),o 21 (.appA 6 96 (.t 18) (.t 20) [22]),o 24 (.app 6 96 (.t 21) (.t 23)),o 25 (.fA 0 (.t 5)),z (.st 1 (.t 25) (.t 24))] [2,3,4,5]) (.seq (.seq (r [o 6 (.mv (i 0))] [2,3,4,5,6]) (.block 0 (.loop (.seq (.seq (r [o 26 (.mv (.t 6)),o 27 (.bin .lss (.t 26) (i 3))] [2,3,4,5,6,27]) (.cond (.t 27) .skip (.exit 0))) (.seq (.block 1 (r [o 30 (.mv (.t 6)),o 31 (.mv (.t 6)),o 32 (.fA 7 (.t 2)),o 33 (.ixArr 3 3 (.t 32) (.t 31)),o 34 (.ld (some 3) (.t 33)),o 35 (.mv (.t 6)),o 36 (.fA 7 (.t 3)),o 37 (.ixArr 3 3 (.t 36) (.t 35)),o 38 (.ld (some 3) (.t 37)),o 39 (.callF 81 [(.t 34),(.t 38)]),o 40 (.fA 7 (.t 5)),o 41 (.ixArr 3 3 (.t 40) (.t 30)),z (.st 3 (.t 41) (.t 39))] [2,3,4,5,6])) (r [o 28 (.mv (.t 6)),o 29 (.bin .add (.t 28) (i 1)),o 6 (.mv (.t 29))] [2,3,4,5,6])))))) (.seq (r [o 42 (.ld (some 16) (.t 5)),o 43 (.call 82 [(.t 42)]),z (.st 16 (.t 4) (.t 43))] [4]) .ret))))),[.cell 4 (some 16)]⟩
theorem ref04_Add_ok : cFn Tryz.prog (kps [[2,3,4],[2,3,4,5],[2,3,4,5],[2,3,4,5,6],[2,3,4,5,6,27],[2,3,4,5,6],[2,3,4,5,6],[4]]) [] 21 = some ref04_Add_c := by kernel_rfl
abbrev ref04_Scale : Nat := 23
def ref04_Scale_c : MFn := ⟨59,(.seq (r [o 2 (.box (.t 0)),o 3 (.box (.t 1)),o 4 (.alloc zM)] [2,3,4]) (.seq (r [o 8 (.fA 1 (.t 2)),o 9 (.ld (some 3) (.t 8)),o 10 (.ld (some 3) (.t 3)),o 11 (.callF 84 [(.t 9),(.t 10)]),o 12 (.fA 4 (.t 2)),o 13 (.ld (some 3) (.t 12)),o 14 (.ld (some 3) (.t 3)),o 15 (.callF 84 [(.t 13),(.t 14)]),o 16 (.build zM [(1,3,(.t 11)),(4,3,(.t 15))]),o 5 (.alloc zM),z (.st 16 (.t 5) (.t 16))] [2,3,4,5]) (.seq (.seq (r [o 6 (.mv (i 0))] [2,3,4,5,6]) (.block 0 (.loop (.seq (.seq (r [o 17 (.mv (.t 6)),o 18 (.fA 0 (.t 2)),o 19 (.ld none (.t 18)),o 20 (.lenS (.t 19)),o 21 (.bin .lss (.t 17) (.t 20))] [2,3,4,5,6,21]) (.cond (.t 21) .skip (.exit 0))) (.seq (.block 1 (r [o 24 (.fA 0 (.t 5)),o 25 (.ld none (.t 24)),o 26 (.fA 0 (.t 2)),o 27 (.ld none (.t 26)),o 28 (.mv (.t 6)),o 29 (.ixA 6 (.t 27) (.t 28)),o 30 (.fA 0 (.t 29)),o 31 (.ld (some 3) (.t 30)),o 32 (.fA 0 (.t 2)),o 33 (.ld none (.t 32)),o 34 (.mv (.t 6)),o 35 (.ixA 6 (.t 33) (.t 34)),o 36 (.fA 3 (.t 35)),o 37 (.ld (some 3) (.t 36)),o 38 (.ld (some 3) (.t 3)),o 39 (.callF 84 [(.t 37),(.t 38)]),o 40 (.build zP [(0,3,(.t 31)),(3,3,(.t 39))]),o 41 (.buildSl 6 1 zP [(0,(.t 40))]),o 42 (.app 6 96 (.t 25) (.t 41)),o 43 (.fA 0 (.t 5)),z (.st 1 (.t 43) (.t 42))] [2,3,4,5,6])) (r [o 22 (.mv (.t 6)),o 23 (.bin .add (.t 22) (i 1)),o 6 (.mv (.t 23))] [2,3,4,5,6])))))) (.seq (.seq (r [o 7 (.mv (i 0))] [2,3,4,5,7]) (.block 2 (.loop (.seq (.seq (r [o 44 (.mv (.t 7)),o 45 (.bin .lss (.t 44) (i 3))] [2,3,4,5,7,45]) (.cond (.t 45) .skip (.exit 2))) (.seq (.block 3 (r [o 48 (.mv (.t 7)),o 49 (.mv (.t 7)),o 50 (.fA 7 (.t 2)),o 51 (.ixArr 3 3 (.t 50) (.t 49)),o 52 (.ld (some 3) (.t 51)),o 53 (.ld (some 3) (.t 3)),o 54 (.callF 84 [(.t 52),(.t 53)]),o 55 (.fA 7 (.t 5)),o 56 (.ixArr 3 3 (.t 55) (.t 48)),z (.st 3 (.t 56) (.t 54))] [2,3,4,5,7])) (r [o 46 (.mv (.t 7)),o 47 (.bin .add (.t 46) (i 1)),o 7 (.mv (.t 47))] [2,3,4,5,7])))))) (.seq (r [o 57 (.ld (some 16) (.t 5)),o 58 (.call 82 [(.t 57)]),z (.st 16 (.t 4) (.t 58))] [4]) .ret))))),[.cell 4 (some 16)]⟩
theorem ref04_Scale_ok : cFn Tryz.prog (kps [[2,3,4],[2,3,4,5],[2,3,4,5,6],[2,3,4,5,6,21],[2,3,4,5,6],[2,3,4,5,6],[2,3,4,5,7],[2,3,4,5,7,45],[2,3,4,5,7],[2,3,4,5,7],[4]]) [] 23 = some ref04_Scale_c := by kernel_rfl
end Go.Proofs.YtmjgehbpcchjpaaGreatDoor.F

namespace Go.Proofs.YtmjgehbpcchjpaaGreatDoor
open Go Go.Proofs Go.Proofs.YtmjgehbpcchjpaaGreatDoor.E
set_option linter.unusedSimpArgs false
set_option linter.unusedVariables false
theorem ref04_parts {m : Ms} {K : Nat} (hK : 1 ≤ K) (hm : m.Ok K) (hl : m.parts.length ≤ 1000) (hb : K ≤ 100000) (hc : ∀ p ∈ m.parts, cQ p.v ≤ 1000000) : CallD Tryz.prog F.ref04_parts [m.v] (· = pl (aL m.parts)) :=
 jI (o6 hK hm hl hb hc) (by omega) (by simp) fun r hr σ n => by obtain ⟨x, _, rfl⟩ := List.mem_map.1 hr; exact bG _ _ _
def gg (a b c d e : Raw) (g : Nat) : List V := am a b (if g ≤ 0 then ao 0 else c) (if g ≤ 1 then ao 0 else d) (if g ≤ 2 then ao 0 else e)
set_option maxHeartbeats 8000000 in
theorem ref04_comes {m : Ms} {K : Nat} (hK : 1 ≤ K) (hm : m.Ok K) (hl : m.parts.length ≤ 1000) (hb : K ≤ 100000) (hc : ∀ p ∈ m.parts, cQ p.v ≤ 1000000) : CallD Tryz.prog F.ref04_comes [m.v] (· = (aI m).v) := by
 have K31 : K ≤ 2 ^ 31 := by omega
 have prt := ref04_parts hK hm hl hb hc
 refine aB F.ref04_comes_ok ?_
 unfold F.ref04_comes_c
 simp [ag, List.filter_cons, msC, am]
 refine ai ref04_None (by simp) ?_
 simp [ag, List.filter_cons, msN, msC, am]
 refine ai prt (by simp [msC, am]) ?_
 simp [ag, List.filter_cons]
 refine ak ref02_Zero (by simp) ?_
 simp [bb, bW]
 refine ak (j8 K31 hm.rf) (by simp [Raw.v, Raw.c]) ?_
 simp [bb, Raw.v, ag, List.filter_cons]
 refine ak ref02_Zero (by simp) ?_
 simp [bb, bW]
 refine ak (j8 K31 hm.lo) (by simp [Raw.v, Raw.c]) ?_
 simp [bb, Raw.v, ag, List.filter_cons]
 refine aH (fun g : Nat => ((((Sl.empty.set 4 (.int .i64 g)).set 3 (.ptr 2 0 0)).set 2 (.ptr 1 0 0)).set 1 (.ptr 0 0 0),
  [(2, ⟨.own, 16, [pl (aL m.parts) :: gg (ao m.rf.q) (ao m.lo.q) (ao m.f0.q) (ao m.f1.q) (ao m.f2.q) g]⟩), (1, ⟨.own, 16, [az]⟩), (0, ⟨.own, 16, [msC m]⟩)]))
  (fun g => g ≤ 3) (fun g => 3 - g) 0 (by omega) ?_ ?_
 ·refine aJ ?_ (by simp [gg, az, msC, am]) (by repeat (first | exact ac | refine ah (by simp) ?_)) (by simp [gg, az, msC, am])
  repeat (first | exact af | refine aj (by simp) ?_)
 intro g hg
 by_cases c : g < 3
 ·have hg3 : g = 0 ∨ g = 1 ∨ g = 2 := by omega
  rcases hg3 with rfl | rfl | rfl
  ·simp [gg, msC, am, az]
   refine ak ref02_Zero (by simp) ?_
   simp [bb, bW]
   refine ak (j8 K31 hm.f0) (by simp [Raw.v, Raw.c]) ?_
   simp [bb, Raw.v, ag, List.filter_cons]
   rw [ap (by omega) (by omega)]
   refine ⟨1, by omega, by dsimp only; omega, ?_⟩
   refine aJ ?_ (by simp [gg, az, msC, am]) (by repeat (first | exact ac | refine ah (by simp) ?_)) (by simp [gg, az, msC, am])
   repeat (first | exact af | refine aj (by simp) ?_)
  ·simp [gg, msC, am, az]
   refine ak ref02_Zero (by simp) ?_
   simp [bb, bW]
   refine ak (j8 K31 hm.f1) (by simp [Raw.v, Raw.c]) ?_
   simp [bb, Raw.v, ag, List.filter_cons]
   rw [ap (by omega) (by omega)]
   refine ⟨2, by omega, by dsimp only; omega, ?_⟩
   refine aJ ?_ (by simp [gg, az, msC, am]) (by repeat (first | exact ac | refine ah (by simp) ?_)) (by simp [gg, az, msC, am])
   repeat (first | exact af | refine aj (by simp) ?_)
  ·simp [gg, msC, am, az]
   refine ak ref02_Zero (by simp) ?_
   simp [bb, bW]
   refine ak (j8 K31 hm.f2) (by simp [Raw.v, Raw.c]) ?_
   simp [bb, Raw.v, ag, List.filter_cons]
   rw [ap (by omega) (by omega)]
   refine ⟨3, by omega, by dsimp only; omega, ?_⟩
   refine aJ ?_ (by simp [gg, az, msC, am]) (by repeat (first | exact ac | refine ah (by simp) ?_)) (by simp [gg, az, msC, am])
   repeat (first | exact af | refine aj (by simp) ?_)
 have hg3 : g = 3 := by omega
 subst hg3
 simp [gg, msC, am, az, aI, ag, List.filter_cons]
def kz (i : Nat) : Sl := ((((Sl.empty.set 6 (.int .i64 i)).set 5 (.ptr 3 0 0)).set 4 (.ptr 2 0 0)).set 3 (.ptr 1 0 0)).set 2 (.ptr 0 0 0)
def gT (m n : Ms) (q i : Nat) : Sto := [(0, ⟨.own, 16, [msC m]⟩), (1, ⟨.own, 16, [msC n]⟩), (2, ⟨.own, 16, [az]⟩),
 (3, ⟨.own, 16, [.ref q 0 (m.parts.length + n.parts.length) :: aQ (ao (m.rf.q + n.rf.q)) (ao (m.lo.q + n.lo.q)) (ao (m.f0.q + n.f0.q)) (ao (m.f1.q + n.f1.q)) (ao (m.f2.q + n.f2.q)) i]⟩), (q, ⟨.own, 6, (m.parts ++ n.parts).map aA⟩)]
theorem jB (i : Nat) : kz i = ((((Sl.empty.set 6 (.int .i64 i)).set 5 (.ptr 3 0 0)).set 4 (.ptr 2 0 0)).set 3 (.ptr 1 0 0)).set 2 (.ptr 0 0 0) := rfl
theorem jD (m n : Ms) (q i : Nat) : gT m n q i = [(0, ⟨.own, 16, [msC m]⟩), (1, ⟨.own, 16, [msC n]⟩), (2, ⟨.own, 16, [az]⟩),
 (3, ⟨.own, 16, [.ref q 0 (m.parts.length + n.parts.length) :: aQ (ao (m.rf.q + n.rf.q)) (ao (m.lo.q + n.lo.q)) (ao (m.f0.q + n.f0.q)) (ao (m.f1.q + n.f1.q)) (ao (m.f2.q + n.f2.q)) i]⟩), (q, ⟨.own, 6, (m.parts ++ n.parts).map aA⟩)] := rfl
theorem addT_in (m n : Ms) (q i : Nat) : ∀ p ∈ gT m n q i, ∀ r ∈ p.2.cells, ∀ y ∈ r, y.within (fun o => ((gT m n q i).map (·.1)).contains o) = true := by
 intro p hp r hr y hy
 simp only [gT, List.mem_cons, List.not_mem_nil, or_false] at hp
 rcases hp with rfl | rfl | rfl | rfl | rfl
 ·simp only [List.mem_singleton] at hr; subst hr; exact bS m y hy _
 ·simp only [List.mem_singleton] at hr; subst hr; exact bS n y hy _
 ·simp only [List.mem_singleton] at hr; subst hr; exact bC y hy _
 ·simp only [List.mem_singleton] at hr; subst hr
  rcases List.mem_cons.1 hy with rfl | hy
  ·simp [gT]
  ·exact cH _ _ _ _ _ i y (List.mem_cons_of_mem _ hy) _
 ·obtain ⟨c, _, rfl⟩ := List.mem_map.1 hr
  exact bn c y hy _
theorem eX {m n : Ms} {q i : Nat} {S : Sl} {σ : Sto} (hq : 4 ≤ q) (hs : Sub (kz i) S) (h : ∀ p ∈ gT m n q i, E.look σ p.1 = some p.2) : Weak [] (kz i) (gT m n q i) S σ := by
 refine aJ hs h ?_ (addT_in m n q i)
 unfold kz
 repeat (first | exact ac | refine ah (by simp [gT]) ?_)
set_option maxHeartbeats 16000000 in
theorem ref04_Add {m n : Ms} {K : Nat} (hK : 1 ≤ K) (hb : K ≤ 40000) (hm : m.Ok K) (hn : n.Ok K) (lm : m.parts.length ≤ 400) (ln : n.parts.length ≤ 400) (cm : ∀ p ∈ m.parts, cQ p.v ≤ 1000000) (cn : ∀ p ∈ n.parts, cQ p.v ≤ 1000000) : CallD Tryz.prog F.ref04_Add [m.v, n.v] (· = (aI (fm m n)).v) := by
 have K31 : K ≤ 2 ^ 31 := by omega
 have come := ref04_comes (K := 2 * K + 1) (by omega) (lP hK hm hn) (by rw [jC]; omega) (by omega) (ml cm cn)
 refine aB F.ref04_Add_ok ?_
 unfold F.ref04_Add_c
 simp [ag, List.filter_cons, msC, am]
 refine ak (ref02_Add (rok hm.rf K31) (rok hn.rf K31)) (by simp [Raw.v]) ?_
 simp [bb, Raw.v]
 refine ak (ref02_Add (rok hm.lo K31) (rok hn.lo K31)) (by simp [Raw.v]) ?_
 simp [bb, Raw.v, ag, List.filter_cons]
 rcases hA : m.parts with _ | ⟨p, A⟩ <;> rcases hB : n.parts with _ | ⟨r, B⟩ <;> simp [hA, hB] at lm ln <;>
  simp (disch := omega) [ib, V.off, ag, List.filter_cons, if_pos]
 all_goals
  first
   | (refine aH (fun g : Nat × Nat => (kz g.2, gT m n g.1 g.2)) (fun g => g.2 ≤ 3 ∧ 4 ≤ g.1) (fun g => 3 - g.2) (4, 0) ?_ (eX ?_ ?_ ?_) ?_
      ·simp
      ·simp
      ·unfold kz; repeat (first | exact af | refine aj (by simp) ?_)
      ·simp [gT, aQ, am, msC, az, hA, hB])
   | (refine aH (fun g : Nat × Nat => (kz g.2, gT m n g.1 g.2)) (fun g => g.2 ≤ 3 ∧ 4 ≤ g.1) (fun g => 3 - g.2) (5, 0) ?_ (eX ?_ ?_ ?_) ?_
      ·simp
      ·simp
      ·unfold kz; repeat (first | exact af | refine aj (by simp) ?_)
      ·simp [gT, aQ, am, msC, az, hA, hB])
   | (refine aH (fun g : Nat × Nat => (kz g.2, gT m n g.1 g.2)) (fun g => g.2 ≤ 3 ∧ 4 ≤ g.1) (fun g => 3 - g.2) (6, 0) ?_ (eX ?_ ?_ ?_) ?_
      ·simp
      ·simp
      ·unfold kz; repeat (first | exact af | refine aj (by simp) ?_)
      ·simp [gT, aQ, am, msC, az, hA, hB])
 all_goals
  rintro ⟨q, g⟩ ⟨hg, hq⟩
  dsimp only at hg hq
  have q0 : ¬ q = 0 := by omega
  have q1 : ¬ q = 1 := by omega
  have q2 : ¬ q = 2 := by omega
  have q3 : ¬ q = 3 := by omega
  have p0 : ¬ 0 = q := by omega
  have p1 : ¬ 1 = q := by omega
  have p2 : ¬ 2 = q := by omega
  have p3 : ¬ 3 = q := by omega
  clear hA hB lm ln
  have hg3 : g = 0 ∨ g = 1 ∨ g = 2 ∨ g = 3 := by omega
  rcases hg3 with rfl | rfl | rfl | rfl
  ·dsimp only; rw [jB 0, jD m n q 0]; simp [aQ, am, msC, az, q0, q1, q2, q3, p0, p1, p2, p3, ag, List.filter_cons]
   refine ak (ref02_Add (rok hm.f0 K31) (rok hn.f0 K31)) (by simp [Raw.v]) ?_
   simp [bb, Raw.v, q0, q1, q2, q3, p0, p1, p2, p3, ag, List.filter_cons]
   rw [ap (by omega) (by omega)]
   refine ⟨(q, 1), ⟨by simp, hq⟩, by dsimp only; omega, eX hq ?_ ?_⟩
   ·unfold kz; repeat (first | exact af | refine aj (by simp) ?_)
   ·simp [gT, aQ, am, msC, az, q0, q1, q2, q3, p0, p1, p2, p3]
  ·dsimp only; rw [jB 1, jD m n q 1]; simp [aQ, am, msC, az, q0, q1, q2, q3, p0, p1, p2, p3, ag, List.filter_cons]
   refine ak (ref02_Add (rok hm.f1 K31) (rok hn.f1 K31)) (by simp [Raw.v]) ?_
   simp [bb, Raw.v, q0, q1, q2, q3, p0, p1, p2, p3, ag, List.filter_cons]
   rw [ap (by omega) (by omega)]
   refine ⟨(q, 2), ⟨by simp, hq⟩, by dsimp only; omega, eX hq ?_ ?_⟩
   ·unfold kz; repeat (first | exact af | refine aj (by simp) ?_)
   ·simp [gT, aQ, am, msC, az, q0, q1, q2, q3, p0, p1, p2, p3]
  ·dsimp only; rw [jB 2, jD m n q 2]; simp [aQ, am, msC, az, q0, q1, q2, q3, p0, p1, p2, p3, ag, List.filter_cons]
   refine ak (ref02_Add (rok hm.f2 K31) (rok hn.f2 K31)) (by simp [Raw.v]) ?_
   simp [bb, Raw.v, q0, q1, q2, q3, p0, p1, p2, p3, ag, List.filter_cons]
   rw [ap (by omega) (by omega)]
   refine ⟨(q, 3), ⟨by simp, hq⟩, by dsimp only; omega, eX hq ?_ ?_⟩
   ·unfold kz; repeat (first | exact af | refine aj (by simp) ?_)
   ·simp [gT, aQ, am, msC, az, q0, q1, q2, q3, p0, p1, p2, p3]
  ·dsimp only; rw [jB 3, jD m n q 3]; simp [aQ, am, msC, az, q0, q1, q2, q3, p0, p1, p2, p3, ag, List.filter_cons]
   have hall : ∀ r ∈ List.map aA m.parts ++ List.map aA n.parts, ∀ (σ : Sto) (k : Nat), bo (toD σ (k + 1)) r = some r := fun r hr σ k => by
    rcases List.mem_append.1 hr with h | h <;> (obtain ⟨x, _, rfl⟩ := List.mem_map.1 h; exact bG _ _ _)
   have hrch : ∀ (σ : Sto) (k : Nat), ∀ r ∈ List.map aA m.parts ++ List.map aA n.parts, r.flatMap (rch σ (k + 1)) = [] := fun σ k r hr => by
    rcases List.mem_append.1 hr with h | h <;> (obtain ⟨x, _, rfl⟩ := List.mem_map.1 h; exact f9 _ _ _)
   refine ai come (by
    simp [fm, msC, am]
    rw [kn (k := 10) (st := .own) (es := 6) (l := List.map aA m.parts ++ List.map aA n.parts) (by simp [aM, E.look, p0, p1, p2, p3]) (by simp) (by simp) (fun r hr => hall r hr _ _)]
    simp [Ms.v, msC, am]) ?_
   have h4 : ∀ σ : Sto, aM σ q = some ⟨.own, 6, List.map aA m.parts ++ List.map aA n.parts⟩ → rch σ 11 (.ref q 0 (m.parts.length + n.parts.length)) = [q] := fun σ h => fi h (by simp) (hrch _ _)
   simp [h4, aM, rchs, E.deep, E.look, frz, p0, p1, p2, p3, q0, q1, q2, q3, ag, List.filter_cons, msC, am]
set_option maxHeartbeats 16000000 in
theorem ref04_Scale {m : Ms} {w : Raw} {K : Nat} (hK : 1 ≤ K) (hm : m.Ok K) (hw : w.Ok K) (hl : m.parts.length ≤ 1000) (hb : K ≤ 50000) (hc : ∀ p ∈ m.parts, cQ p.v ≤ 1000000) : CallD Tryz.prog F.ref04_Scale [m.v, w.v] (· = (aI (c9 m w.q)).v) := by
 have K31 : K ≤ 2 ^ 31 := by omega
 have come := ref04_comes (K := 2 * K) (by omega) (rT hK hm hw) (by rw [ge]; exact hl) (by omega) (sclM_cnt hc)
 refine aB F.ref04_Scale_ok ?_
 unfold F.ref04_Scale_c
 simp [ag, List.filter_cons, msC, am, Raw.v]
 refine ak (ref02_Mul (rok hm.rf K31) (rok hw K31)) (by simp [Raw.v]) ?_
 simp [bb, Raw.v]
 refine ak (ref02_Mul (rok hm.lo K31) (rok hw K31)) (by simp [Raw.v]) ?_
 simp [bb, Raw.v, ag, List.filter_cons]
 have ho := hm.parts
 generalize hL : m.parts = l at hl ho
 have lS : (dm l w.q).length = l.length := by simp [dm]
 have inS : ∀ n, ∀ r ∈ List.take n (List.map aA (dm l w.q)), ∀ y ∈ r, ∀ p : Nat → Bool, y.within p = true := fun n r hr y hy p => by
  obtain ⟨x, _, rfl⟩ := List.mem_map.1 (List.mem_of_mem_take hr)
  exact bn x y hy p
 let A := ao (m.rf.q * w.q)
 let B := ao (m.lo.q * w.q)
 refine aH (fun g : Nat × Nat => (((((Sl.empty.set 6 (.int .i64 g.2)).set 5 (.ptr 3 0 0)).set 4 (.ptr 2 0 0)).set 3 (.ptr 1 0 0)).set 2 (.ptr 0 0 0),
  [(0, ⟨.own, 16, [pl l :: am m.rf m.lo m.f0 m.f1 m.f2]⟩), (1, ⟨.own, 3, [w.c]⟩), (2, ⟨.own, 16, [az]⟩), (3, ⟨.own, 16, [bl g.1 g.2 :: aQ A B A A A 0]⟩)] ++ cL g.1 6 g.2 ((List.map aA (dm l w.q)).take g.2)))
  (fun g => g.2 ≤ l.length ∧ 3 < g.1) (fun g => l.length - g.2) (4, 0) (by simp) ?_ ?_
 ·refine aJ ?_ (by simp [aF, aP, am, aQ, az, Raw.c, A, B]) (by repeat (first | exact ac | refine ah (by simp [aF]) ?_)) (by simp [aF, aP, am, aQ, az, Raw.c])
  repeat (first | exact af | refine aj (by simp [hL]) ?_)
 rintro ⟨o, i⟩ ⟨hi, o3⟩
 dsimp only at hi o3
 have q0 : ¬ o = 0 := by omega
 have q1 : ¬ o = 1 := by omega
 have q2 : ¬ o = 2 := by omega
 have q3 : ¬ o = 3 := by omega
 have p0 : ¬ 0 = o := by omega
 have p1 : ¬ 1 = o := by omega
 have p2 : ¬ 2 = o := by omega
 have p3 : ¬ 3 = o := by omega
 by_cases h1 : i < l.length
 ·obtain ⟨okv, okw⟩ := ho _ (List.getElem_mem h1)
  have tk : List.take 6 (aA l[i]) = aA l[i] := by simp
  have e1 := qr (r := w.q) h1
  have ed : List.drop 6 (l[i].v.cells ++ [V.bool false, V.nils, V.nils]) = [] := List.drop_eq_nil_of_le (by simp)
  have et3 : List.take 3 (l[i].v.cells ++ [V.bool false, V.nils, V.nils]) = l[i].v.cells := List.take_left' (by simp)
  have ep : l[i].v.cells ++ [V.bool (ao (l[i].w.q * w.q)).neg, nat (ao (l[i].w.q * w.q)).num, nat (ao (l[i].w.q * w.q)).den] = aA ⟨l[i].v, ao (l[i].w.q * w.q)⟩ := rfl
  by_cases hi0 : i = 0
  ·subst hi0
   simp at e1
   simp [h1, tk, aQ, aF, aP, ag, List.filter_cons]
   refine ak (ref02_Mul (rok okw K31) (rok hw K31)) (by simp [bq, bW]) ?_
   simp (disch := omega) [bb, Raw.v, ed, et3, ep, ag, List.filter_cons, Nat.max_eq_right, Nat.max_eq_left, if_neg, if_pos]
   rw [ap (by omega) (by omega)]
   refine ⟨(5, 1), ⟨h1, by dsimp only; omega⟩, by dsimp only; omega, ?_⟩
   refine aJ ?_ ?_ (by repeat (first | exact ac | refine ah (by simp [ay]) ?_)) ?_
   ·repeat (first | exact af | refine aj (by simp) ?_)
   ·simp (disch := omega) [ay, ax, e1, aQ, am, az, Raw.c, if_neg]
   ·simp only [ay (show 1 ≠ 0 by omega), ax (show 1 ≠ 0 by omega)]
    intro p hp r hr y hy
    simp only [List.cons_append, List.nil_append, List.mem_cons, List.not_mem_nil, or_false] at hp
    rcases hp with rfl | rfl | rfl | rfl | rfl
    ·simp only [List.mem_singleton] at hr; subst hr
     rcases List.mem_cons.1 hy with rfl | hy
     ·simp [V.within]
     ·exact bL _ _ _ _ _ y hy _
    ·simp only [List.mem_singleton] at hr; subst hr; exact bx _ y hy
    ·simp only [List.mem_singleton] at hr; subst hr; exact bC y hy _
    ·simp only [List.mem_singleton] at hr; subst hr
     rcases List.mem_cons.1 hy with rfl | hy
     ·simp [V.within]
     ·exact cH A B A A A 0 y (List.mem_cons_of_mem _ (by simpa [aQ] using hy)) _
    ·exact inS _ r hr y hy _
  ·simp (disch := omega) [h1, tk, lS, Nat.min_eq_left, aQ, ax hi0, ay hi0, q0, q1, q2, q3, p0, p1, p2, p3, ag, List.filter_cons, Nat.max_eq_right, Nat.max_eq_left, if_neg, if_pos]
   refine ak (ref02_Mul (rok okw K31) (rok hw K31)) (by simp [bq, bW]) ?_
   simp (disch := omega) [bb, Raw.v, lS, Nat.min_eq_left, ed, et3, ep, q0, q1, q2, q3, p0, p1, p2, p3, ag, List.filter_cons, Nat.max_eq_right, Nat.max_eq_left, if_neg, if_pos]
   rw [ap (by omega) (by omega)]
   refine ⟨(o + 2, i + 1), ⟨h1, by dsimp only; omega⟩, by dsimp only; omega, ?_⟩
   refine aJ ?_ ?_ (by repeat (first | exact ac | refine ah (by simp [ay]) ?_)) ?_
   ·repeat (first | exact af | refine aj (by simp) ?_)
   ·simp (config := { maxSteps := 2000000 }) (disch := omega) [ay, ax, e1, aQ, am, az, Raw.c, q0, q1, q2, q3, if_neg]
   ·simp only [ay (show i + 1 ≠ 0 by omega), ax (show i + 1 ≠ 0 by omega)]
    intro p hp r hr y hy
    simp only [List.cons_append, List.nil_append, List.mem_cons, List.not_mem_nil, or_false] at hp
    rcases hp with rfl | rfl | rfl | rfl | rfl
    ·simp only [List.mem_singleton] at hr; subst hr
     rcases List.mem_cons.1 hy with rfl | hy
     ·simp [V.within]
     ·exact bL _ _ _ _ _ y hy _
    ·simp only [List.mem_singleton] at hr; subst hr; exact bx _ y hy
    ·simp only [List.mem_singleton] at hr; subst hr; exact bC y hy _
    ·simp only [List.mem_singleton] at hr; subst hr
     rcases List.mem_cons.1 hy with rfl | hy
     ·simp [V.within]
     ·exact cH A B A A A 0 y (List.mem_cons_of_mem _ (by simpa [aQ] using hy)) _
    ·exact inS _ r hr y hy _
 ·have hil : i = l.length := by omega
  subst hil
  simp [h1, ag, List.filter_cons]
  have et : List.take l.length (List.map aA (dm l w.q)) = List.map aA (dm l w.q) := List.take_of_length_le (by simp [lS])
  rw [et]
  let C := ao (m.f0.q * w.q)
  let D := ao (m.f1.q * w.q)
  let G := ao (m.f2.q * w.q)
  refine aH (fun g : Nat => (((((Sl.empty.set 7 (.int .i64 g)).set 5 (.ptr 3 0 0)).set 4 (.ptr 2 0 0)).set 3 (.ptr 1 0 0)).set 2 (.ptr 0 0 0),
   [(0, ⟨.own, 16, [pl l :: am m.rf m.lo m.f0 m.f1 m.f2]⟩), (1, ⟨.own, 3, [w.c]⟩), (2, ⟨.own, 16, [az]⟩), (3, ⟨.own, 16, [bl o l.length :: aQ A B C D G g]⟩)] ++ cL o 6 l.length (List.map aA (dm l w.q))))
   (fun g => g ≤ 3) (fun g => 3 - g) 0 (by omega) ?_ ?_
  ·by_cases n0 : l.length = 0
   ·simp only [n0, aF, aP]
    refine aJ ?_ (by simp [aQ, am, az, Raw.c, A, B, C, D, G]) (by repeat (first | exact ac | refine ah (by simp) ?_)) (by simp [aQ, am, az, Raw.c, V.within])
    repeat (first | exact af | refine aj (by simp) ?_)
   ·simp only [ax n0, ay n0]
    refine aJ ?_ (by simp (config := { maxSteps := 2000000 }) (disch := omega) [aQ, am, az, Raw.c, q0, q1, q2, q3, p0, p1, p2, p3, if_neg, List.filter_cons, A, B, C, D, G]) (by repeat (first | exact ac | refine ah (by simp) ?_)) ?_
    ·repeat (first | exact af | refine aj (by simp) ?_)
    ·intro p hp r hr y hy
     simp only [List.cons_append, List.nil_append, List.mem_cons, List.not_mem_nil, or_false] at hp
     rcases hp with rfl | rfl | rfl | rfl | rfl
     ·simp only [List.mem_singleton] at hr; subst hr
      rcases List.mem_cons.1 hy with rfl | hy
      ·simp [V.within]
      ·exact bL _ _ _ _ _ y (by simpa [am] using hy) _
     ·simp only [List.mem_singleton] at hr; subst hr; exact bx _ y hy
     ·simp only [List.mem_singleton] at hr; subst hr; exact bC y hy _
     ·simp only [List.mem_singleton] at hr; subst hr
      rcases List.mem_cons.1 hy with rfl | hy
      ·simp [V.within]
      ·exact cH A B C D G 0 y (List.mem_cons_of_mem _ (by simpa [aQ] using hy)) _
     ·exact inS l.length r (by rw [et]; exact hr) y hy _
  intro g hg
  by_cases c : g < 3
  ·have hg3 : g = 0 ∨ g = 1 ∨ g = 2 := by omega
   rcases hg3 with e | e | e
   ·subst e
    simp (disch := omega) [aQ, am, ag, List.filter_cons, if_neg]
    refine ak (ref02_Mul (rok hm.f0 K31) (rok hw K31)) (by simp [bq, bW, Raw.c]) ?_
    simp (disch := omega) [bb, Raw.v, ag, List.filter_cons, if_neg]
    rw [ap (by omega) (by omega)]
    refine ⟨1, by omega, by dsimp only; omega, ?_⟩
    by_cases n0 : l.length = 0
    ·simp only [n0, aF, aP]
     refine aJ ?_ (by simp [aQ, am, az, Raw.c, A, B, C, D, G]) (by repeat (first | exact ac | refine ah (by simp) ?_)) (by simp [aQ, am, az, Raw.c, V.within])
     repeat (first | exact af | refine aj (by simp) ?_)
    ·simp only [ax n0, ay n0]
     refine aJ ?_ (by simp (config := { maxSteps := 2000000 }) (disch := omega) [aQ, am, az, Raw.c, q0, q1, q2, q3, p0, p1, p2, p3, if_neg, List.filter_cons, A, B, C, D, G]) (by repeat (first | exact ac | refine ah (by simp) ?_)) ?_
     ·repeat (first | exact af | refine aj (by simp) ?_)
     ·intro p hp r hr y hy
      simp only [List.cons_append, List.nil_append, List.mem_cons, List.not_mem_nil, or_false] at hp
      rcases hp with rfl | rfl | rfl | rfl | rfl
      ·simp only [List.mem_singleton] at hr; subst hr
       rcases List.mem_cons.1 hy with rfl | hy
       ·simp [V.within]
       ·exact bL _ _ _ _ _ y (by simpa [am] using hy) _
      ·simp only [List.mem_singleton] at hr; subst hr; exact bx _ y hy
      ·simp only [List.mem_singleton] at hr; subst hr; exact bC y hy _
      ·simp only [List.mem_singleton] at hr; subst hr
       rcases List.mem_cons.1 hy with rfl | hy
       ·simp [V.within]
       ·exact cH A B C D G 1 y (List.mem_cons_of_mem _ (by simpa [aQ] using hy)) _
      ·exact inS l.length r (by rw [et]; exact hr) y hy _
   ·subst e
    simp (disch := omega) [aQ, am, ag, List.filter_cons, if_neg]
    refine ak (ref02_Mul (rok hm.f1 K31) (rok hw K31)) (by simp [bq, bW, Raw.c]) ?_
    simp (disch := omega) [bb, Raw.v, ag, List.filter_cons, if_neg]
    rw [ap (by omega) (by omega)]
    refine ⟨2, by omega, by dsimp only; omega, ?_⟩
    by_cases n0 : l.length = 0
    ·simp only [n0, aF, aP]
     refine aJ ?_ (by simp [aQ, am, az, Raw.c, A, B, C, D, G]) (by repeat (first | exact ac | refine ah (by simp) ?_)) (by simp [aQ, am, az, Raw.c, V.within])
     repeat (first | exact af | refine aj (by simp) ?_)
    ·simp only [ax n0, ay n0]
     refine aJ ?_ (by simp (config := { maxSteps := 2000000 }) (disch := omega) [aQ, am, az, Raw.c, q0, q1, q2, q3, p0, p1, p2, p3, if_neg, List.filter_cons, A, B, C, D, G]) (by repeat (first | exact ac | refine ah (by simp) ?_)) ?_
     ·repeat (first | exact af | refine aj (by simp) ?_)
     ·intro p hp r hr y hy
      simp only [List.cons_append, List.nil_append, List.mem_cons, List.not_mem_nil, or_false] at hp
      rcases hp with rfl | rfl | rfl | rfl | rfl
      ·simp only [List.mem_singleton] at hr; subst hr
       rcases List.mem_cons.1 hy with rfl | hy
       ·simp [V.within]
       ·exact bL _ _ _ _ _ y (by simpa [am] using hy) _
      ·simp only [List.mem_singleton] at hr; subst hr; exact bx _ y hy
      ·simp only [List.mem_singleton] at hr; subst hr; exact bC y hy _
      ·simp only [List.mem_singleton] at hr; subst hr
       rcases List.mem_cons.1 hy with rfl | hy
       ·simp [V.within]
       ·exact cH A B C D G 2 y (List.mem_cons_of_mem _ (by simpa [aQ] using hy)) _
      ·exact inS l.length r (by rw [et]; exact hr) y hy _
   ·subst e
    simp (disch := omega) [aQ, am, ag, List.filter_cons, if_neg]
    refine ak (ref02_Mul (rok hm.f2 K31) (rok hw K31)) (by simp [bq, bW, Raw.c]) ?_
    simp (disch := omega) [bb, Raw.v, ag, List.filter_cons, if_neg]
    rw [ap (by omega) (by omega)]
    refine ⟨3, by omega, by dsimp only; omega, ?_⟩
    by_cases n0 : l.length = 0
    ·simp only [n0, aF, aP]
     refine aJ ?_ (by simp [aQ, am, az, Raw.c, A, B, C, D, G]) (by repeat (first | exact ac | refine ah (by simp) ?_)) (by simp [aQ, am, az, Raw.c, V.within])
     repeat (first | exact af | refine aj (by simp) ?_)
    ·simp only [ax n0, ay n0]
     refine aJ ?_ (by simp (config := { maxSteps := 2000000 }) (disch := omega) [aQ, am, az, Raw.c, q0, q1, q2, q3, p0, p1, p2, p3, if_neg, List.filter_cons, A, B, C, D, G]) (by repeat (first | exact ac | refine ah (by simp) ?_)) ?_
     ·repeat (first | exact af | refine aj (by simp) ?_)
     ·intro p hp r hr y hy
      simp only [List.cons_append, List.nil_append, List.mem_cons, List.not_mem_nil, or_false] at hp
      rcases hp with rfl | rfl | rfl | rfl | rfl
      ·simp only [List.mem_singleton] at hr; subst hr
       rcases List.mem_cons.1 hy with rfl | hy
       ·simp [V.within]
       ·exact bL _ _ _ _ _ y (by simpa [am] using hy) _
      ·simp only [List.mem_singleton] at hr; subst hr; exact bx _ y hy
      ·simp only [List.mem_singleton] at hr; subst hr; exact bC y hy _
      ·simp only [List.mem_singleton] at hr; subst hr
       rcases List.mem_cons.1 hy with rfl | hy
       ·simp [V.within]
       ·exact cH A B C D G 3 y (List.mem_cons_of_mem _ (by simpa [aQ] using hy)) _
      ·exact inS l.length r (by rw [et]; exact hr) y hy _
  have hg3 : g = 3 := by omega
  subst hg3
  simp [aQ, ag, List.filter_cons]
  refine ai come (by
   simp [c9, msC, am, hL]
   rw [cI (k := 10) (st := .own) (es := 6) (l := List.map aA (dm l w.q)) (fun h => by simp [ay h, E.look, p0, p1, p2, p3]) (by simp) (by simp) (by simp [lS]) (fun r hr => by obtain ⟨x, _, rfl⟩ := List.mem_map.1 hr; exact bG _ _ _)]
   rfl) ?_
  by_cases n0 : l.length = 0
  ·simp [n0, aF, aP, az, ag, List.filter_cons, msC, am]
  ·have h4 : ∀ σ : Sto, aM σ o = some ⟨.own, 6, List.map aA (dm l w.q)⟩ → rch σ 11 (.ref o 0 l.length) = [o] := fun σ h => fi h (by simp [lS]) fun r hr => by
    obtain ⟨x, _, rfl⟩ := List.mem_map.1 hr
    exact f9 _ _ _
   simp [ax n0, ay n0, h4, aM, rchs, E.deep, E.look, frz, p0, p1, p2, p3, q0, q1, q2, q3, az, ag, List.filter_cons, msC, am]
end Go.Proofs.YtmjgehbpcchjpaaGreatDoor
