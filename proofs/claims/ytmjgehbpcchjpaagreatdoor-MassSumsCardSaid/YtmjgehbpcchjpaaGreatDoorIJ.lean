import Derived.Test.YtmjgehbpcchjpaaGreatDoorID
import Derived.Test.YtmjgehbpcchjpaaGreatDoorHT
namespace Go.Proofs.YtmjgehbpcchjpaaGreatDoor.F
open Go Go.Proofs Go.Proofs.YtmjgehbpcchjpaaGreatDoor.E Go.Proofs.YtmjgehbpcchjpaaGreatDoor.Q
abbrev ref02_Make : Nat := 79
def ref02_Make_c : MFn := ⟨28,(.seq (r [o 4 (.alloc zR),o 5 (.mv (i 0))] [0,1,4]) (.seq (r [o 11 (.mv (.t 0)),o 12 (.call 130 [(.t 11)]),o 10 (.mv (.t 12)),o 13 (.ext (.t 10) 0),o 14 (.ext (.t 10) 1),o 6 (.mv (.t 13)),o 7 (.mv (.t 14))] [1,4,6,7]) (.seq (r [o 16 (.mv (.t 1)),o 17 (.call 130 [(.t 16)]),o 15 (.mv (.t 17)),o 18 (.ext (.t 15) 0),o 19 (.ext (.t 15) 1),o 8 (.mv (.t 18)),o 9 (.mv (.t 19))] [4,6,7,8,9]) (.seq (r [o 20 (.mv (.t 7)),o 21 (.mv (.t 9)),o 22 (.binB .neq (.t 20) (.t 21)),o 23 (.mv (.t 6)),o 24 (.mv (.t 8)),o 25 (.call 131 [(.t 22),(.t 23),(.t 24)]),o 26 (.ext (.t 25) 0),o 27 (.ext (.t 25) 1),z (.st 3 (.t 4) (.t 26)),o 5 (.mv (.t 27))] [4,5]) .ret)))),[.cell 4 (some 3),.t 5]⟩
theorem ref02_Make_ok : cFn Tryz.prog (kps [[0,1,4],[1,4,6,7],[4,6,7,8,9],[4,5]]) [] 79 = some ref02_Make_c := by kernel_rfl
abbrev ref04_comes : Nat := 82
def ref04_comes_c : MFn := ⟨33,(.seq (r [o 1 (.box (.t 0)),o 2 (.alloc zM)] [1,2]) (.seq (r [o 5 (.call 49 []),o 3 (.alloc zM),z (.st 16 (.t 3) (.t 5))] [1,2,3]) (.seq (r [o 6 (.ld (some 16) (.t 1)),o 7 (.call 89 [(.t 6)]),o 8 (.fA 0 (.t 3)),z (.st 1 (.t 8) (.t 7))] [1,2,3]) (.seq (r [o 9 (.fA 1 (.t 1)),o 10 (.ld (some 3) (.t 9)),o 11 (.callF 113 []),o 12 (.callF 81 [(.t 10),(.t 11)]),o 13 (.fA 1 (.t 3)),z (.st 3 (.t 13) (.t 12))] [1,2,3]) (.seq (r [o 14 (.fA 4 (.t 1)),o 15 (.ld (some 3) (.t 14)),o 16 (.callF 113 []),o 17 (.callF 81 [(.t 15),(.t 16)]),o 18 (.fA 4 (.t 3)),z (.st 3 (.t 18) (.t 17))] [1,2,3]) (.seq (.seq (r [o 4 (.mv (i 0))] [1,2,3,4]) (.block 0 (.loop (.seq (.seq (r [o 19 (.mv (.t 4)),o 20 (.bin .lss (.t 19) (i 3))] [1,2,3,4,20]) (.cond (.t 20) .skip (.exit 0))) (.seq (.block 1 (r [o 23 (.mv (.t 4)),o 24 (.mv (.t 4)),o 25 (.fA 7 (.t 1)),o 26 (.ixArr 3 3 (.t 25) (.t 24)),o 27 (.ld (some 3) (.t 26)),o 28 (.callF 113 []),o 29 (.callF 81 [(.t 27),(.t 28)]),o 30 (.fA 7 (.t 3)),o 31 (.ixArr 3 3 (.t 30) (.t 23)),z (.st 3 (.t 31) (.t 29))] [1,2,3,4])) (r [o 21 (.mv (.t 4)),o 22 (.bin .add (.t 21) (i 1)),o 4 (.mv (.t 22))] [1,2,3,4])))))) (.seq (r [o 32 (.ld (some 16) (.t 3)),z (.st 16 (.t 2) (.t 32))] [2]) .ret))))))),[.cell 2 (some 16)]⟩
theorem ref04_comes_ok : cFn Tryz.prog (kps [[1,2],[1,2,3],[1,2,3],[1,2,3],[1,2,3],[1,2,3,4],[1,2,3,4,20],[1,2,3,4],[1,2,3,4],[2]]) [] 82 = some ref04_comes_c := by kernel_rfl
abbrev ref04_Add : Nat := 21
def ref04_Add_c : MFn := ⟨44,(.seq (r [o 2 (.box (.t 0)),o 3 (.box (.t 1)),o 4 (.alloc zM)] [2,3,4]) (.seq (r [o 7 (.fA 1 (.t 2)),o 8 (.ld (some 3) (.t 7)),o 9 (.fA 1 (.t 3)),o 10 (.ld (some 3) (.t 9)),o 11 (.callF 81 [(.t 8),(.t 10)]),o 12 (.fA 4 (.t 2)),o 13 (.ld (some 3) (.t 12)),o 14 (.fA 4 (.t 3)),o 15 (.ld (some 3) (.t 14)),o 16 (.callF 81 [(.t 13),(.t 15)]),o 17 (.build zM [(1,3,(.t 11)),(4,3,(.t 16))]),o 5 (.alloc zM),z (.st 16 (.t 5) (.t 17))] [2,3,4,5]) (.seq (r [o 19 (.fA 0 (.t 2)),o 20 (.ld none (.t 19)),o 22 (.fA 0 (.t 3)),o 23 (.ld none (.t 22)),o 18 (.buildSl 6 0 zP []),o 21 (.appA 6 96 (.t 18) (.t 20) [22]),o 24 (.app 6 96 (.t 21) (.t 23)),o 25 (.fA 0 (.t 5)),z (.st 1 (.t 25) (.t 24))] [2,3,4,5]) (.seq (.seq (r [o 6 (.mv (i 0))] [2,3,4,5,6]) (.block 0 (.loop (.seq (.seq (r [o 26 (.mv (.t 6)),o 27 (.bin .lss (.t 26) (i 3))] [2,3,4,5,6,27]) (.cond (.t 27) .skip (.exit 0))) (.seq (.block 1 (r [o 30 (.mv (.t 6)),o 31 (.mv (.t 6)),o 32 (.fA 7 (.t 2)),o 33 (.ixArr 3 3 (.t 32) (.t 31)),o 34 (.ld (some 3) (.t 33)),o 35 (.mv (.t 6)),o 36 (.fA 7 (.t 3)),o 37 (.ixArr 3 3 (.t 36) (.t 35)),o 38 (.ld (some 3) (.t 37)),o 39 (.callF 81 [(.t 34),(.t 38)]),o 40 (.fA 7 (.t 5)),o 41 (.ixArr 3 3 (.t 40) (.t 30)),z (.st 3 (.t 41) (.t 39))] [2,3,4,5,6])) (r [o 28 (.mv (.t 6)),o 29 (.bin .add (.t 28) (i 1)),o 6 (.mv (.t 29))] [2,3,4,5,6])))))) (.seq (r [o 42 (.ld (some 16) (.t 5)),o 43 (.call 82 [(.t 42)]),z (.st 16 (.t 4) (.t 43))] [4]) .ret))))),[.cell 4 (some 16)]⟩
theorem ref04_Add_ok : cFn Tryz.prog (kps [[2,3,4],[2,3,4,5],[2,3,4,5],[2,3,4,5,6],[2,3,4,5,6,27],[2,3,4,5,6],[2,3,4,5,6],[4]]) [] 21 = some ref04_Add_c := by kernel_rfl
abbrev ref04_Scale : Nat := 23
def ref04_Scale_c : MFn := ⟨59,(.seq (r [o 2 (.box (.t 0)),o 3 (.box (.t 1)),o 4 (.alloc zM)] [2,3,4]) (.seq (r [o 8 (.fA 1 (.t 2)),o 9 (.ld (some 3) (.t 8)),o 10 (.ld (some 3) (.t 3)),o 11 (.callF 84 [(.t 9),(.t 10)]),o 12 (.fA 4 (.t 2)),o 13 (.ld (some 3) (.t 12)),o 14 (.ld (some 3) (.t 3)),o 15 (.callF 84 [(.t 13),(.t 14)]),o 16 (.build zM [(1,3,(.t 11)),(4,3,(.t 15))]),o 5 (.alloc zM),z (.st 16 (.t 5) (.t 16))] [2,3,4,5]) (.seq (.seq (r [o 6 (.mv (i 0))] [2,3,4,5,6]) (.block 0 (.loop (.seq (.seq (r [o 17 (.mv (.t 6)),o 18 (.fA 0 (.t 2)),o 19 (.ld none (.t 18)),o 20 (.lenS (.t 19)),o 21 (.bin .lss (.t 17) (.t 20))] [2,3,4,5,6,21]) (.cond (.t 21) .skip (.exit 0))) (.seq (.block 1 (r [o 24 (.fA 0 (.t 5)),o 25 (.ld none (.t 24)),o 26 (.fA 0 (.t 2)),o 27 (.ld none (.t 26)),o 28 (.mv (.t 6)),o 29 (.ixA 6 (.t 27) (.t 28)),o 30 (.fA 0 (.t 29)),o 31 (.ld (some 3) (.t 30)),o 32 (.fA 0 (.t 2)),o 33 (.ld none (.t 32)),o 34 (.mv (.t 6)),o 35 (.ixA 6 (.t 33) (.t 34)),o 36 (.fA 3 (.t 35)),o 37 (.ld (some 3) (.t 36)),o 38 (.ld (some 3) (.t 3)),o 39 (.callF 84 [(.t 37),(.t 38)]),o 40 (.build zP [(0,3,(.t 31)),(3,3,(.t 39))]),o 41 (.buildSl 6 1 zP [(0,(.t 40))]),o 42 (.app 6 96 (.t 25) (.t 41)),o 43 (.fA 0 (.t 5)),z (.st 1 (.t 43) (.t 42))] [2,3,4,5,6])) (r [o 22 (.mv (.t 6)),o 23 (.bin .add (.t 22) (i 1)),o 6 (.mv (.t 23))] [2,3,4,5,6])))))) (.seq (.seq (r [o 7 (.mv (i 0))] [2,3,4,5,7]) (.block 2 (.loop (.seq (.seq (r [o 44 (.mv (.t 7)),o 45 (.bin .lss (.t 44) (i 3))] [2,3,4,5,7,45]) (.cond (.t 45) .skip (.exit 2))) (.seq (.block 3 (r [o 48 (.mv (.t 7)),o 49 (.mv (.t 7)),o 50 (.fA 7 (.t 2)),o 51 (.ixArr 3 3 (.t 50) (.t 49)),o 52 (.ld (some 3) (.t 51)),o 53 (.ld (some 3) (.t 3)),o 54 (.callF 84 [(.t 52),(.t 53)]),o 55 (.fA 7 (.t 5)),o 56 (.ixArr 3 3 (.t 55) (.t 48)),z (.st 3 (.t 56) (.t 54))] [2,3,4,5,7])) (r [o 46 (.mv (.t 7)),o 47 (.bin .add (.t 46) (i 1)),o 7 (.mv (.t 47))] [2,3,4,5,7])))))) (.seq (r [o 57 (.ld (some 16) (.t 5)),o 58 (.call 82 [(.t 57)]),z (.st 16 (.t 4) (.t 58))] [4]) .ret))))),[.cell 4 (some 16)]⟩
theorem ref04_Scale_ok : cFn Tryz.prog (kps [[2,3,4],[2,3,4,5],[2,3,4,5,6],[2,3,4,5,6,21],[2,3,4,5,6],[2,3,4,5,6],[2,3,4,5,7],[2,3,4,5,7,45],[2,3,4,5,7],[2,3,4,5,7],[4]]) [] 23 = some ref04_Scale_c := by kernel_rfl
abbrev ref04_Mix : Nat := 18
def ref04_Mix_c : MFn := ⟨73,(.seq (r [o 4 (.alloc zM),o 5 (.mv (i 0))] [0,1,4]) (.seq (r [o 6 (.mv (i 0))] [0,1,4,6]) (.seq (.seq (r [o 12 (.mv (.t 0)),o 13 (.lenS (.t 12)),o 14 (.mv (.t 1)),o 15 (.lenS (.t 14)),o 16 (.bin .neq (.t 13) (.t 15)),o 17 (.mv (.t 16)),n 18 17 (.mv (.t 0)),n 19 17 (.lenS (.t 18)),n 20 17 (.bin .eql (.t 19) (i 0)),o 21 (.pick (.t 17) (.c (.bool true)) (.t 20))] [0,1,4,6,21]) (.cond (.t 21) (.seq (r [o 22 (.build zM []),z (.st 16 (.t 4) (.t 22)),o 5 (.mv (i 1))] [4,5]) .ret) .skip)) (.seq (.seq (r [o 7 (.mv (i 0))] [0,1,4,6,7]) (.block 0 (.loop (.seq (.seq (r [o 23 (.mv (.t 7)),o 24 (.mv (.t 1)),o 25 (.lenS (.t 24)),o 26 (.bin .lss (.t 23) (.t 25))] [0,1,4,6,7,26]) (.cond (.t 26) .skip (.exit 0))) (.seq (.block 1 (.seq (.seq (r [o 29 (.mv (.t 1)),o 30 (.mv (.t 7)),o 31 (.ixA 1 (.t 29) (.t 30)),o 32 (.ld none (.t 31)),o 33 (.bin .lss (.t 32) (i 1)),o 34 (.mv (.t 33)),n 35 34 (.mv (.t 1)),n 36 34 (.mv (.t 7)),n 37 34 (.ixA 1 (.t 35) (.t 36)),n 38 34 (.ld none (.t 37)),n 39 34 (.bin .gtr (.t 38) (i 1000)),o 40 (.pick (.t 34) (.c (.bool true)) (.t 39))] [0,1,4,6,7,40]) (.cond (.t 40) (.seq (r [o 41 (.build zM []),z (.st 16 (.t 4) (.t 41)),o 5 (.mv (i 1))] [4,5]) .ret) .skip)) (r [o 42 (.mv (.t 6)),o 43 (.mv (.t 1)),o 44 (.mv (.t 7)),o 45 (.ixA 1 (.t 43) (.t 44)),o 46 (.ld none (.t 45)),o 47 (.bin .add (.t 42) (.t 46)),o 6 (.mv (.t 47))] [0,1,4,6,7]))) (r [o 27 (.mv (.t 7)),o 28 (.bin .add (.t 27) (i 1)),o 7 (.mv (.t 28))] [0,1,4,6,7])))))) (.seq (r [o 48 (.call 49 []),o 8 (.alloc zM),z (.st 16 (.t 8) (.t 48))] [0,1,4,6,8]) (.seq (.seq (r [o 9 (.mv (i 0))] [0,1,4,6,8,9]) (.block 2 (.loop (.seq (.seq (r [o 49 (.mv (.t 9)),o 50 (.mv (.t 0)),o 51 (.lenS (.t 50)),o 52 (.bin .lss (.t 49) (.t 51))] [0,1,4,6,8,9,52]) (.cond (.t 52) .skip (.exit 2))) (.seq (.block 3 (.seq (r [o 56 (.mv (.t 1)),o 57 (.mv (.t 9)),o 58 (.ixA 1 (.t 56) (.t 57)),o 59 (.ld none (.t 58)),o 60 (.mv (.t 6)),o 61 (.call 79 [(.t 59),(.t 60)]),o 55 (.mv (.t 61)),o 62 (.ext (.t 55) 0),o 63 (.ext (.t 55) 1),o 10 (.alloc zR),z (.st 3 (.t 10) (.t 62)),o 11 (.mv (.t 63))] [0,1,4,6,8,9,10]) (r [o 64 (.ld (some 16) (.t 8)),o 65 (.mv (.t 0)),o 66 (.mv (.t 9)),o 67 (.ixA 16 (.t 65) (.t 66)),o 68 (.ld (some 16) (.t 67)),o 69 (.ld (some 3) (.t 10)),o 70 (.callF 23 [(.t 68),(.t 69)]),o 71 (.callF 21 [(.t 64),(.t 70)]),z (.st 16 (.t 8) (.t 71))] [0,1,4,6,8,9]))) (r [o 53 (.mv (.t 9)),o 54 (.bin .add (.t 53) (i 1)),o 9 (.mv (.t 54))] [0,1,4,6,8,9])))))) (.seq (r [o 72 (.ld (some 16) (.t 8)),z (.st 16 (.t 4) (.t 72)),o 5 (.mv (i 0))] [4,5]) .ret))))))),[.cell 4 (some 16),.t 5]⟩
theorem ref04_Mix_ok : cFn Tryz.prog (kps [[0,1,4],[0,1,4,6],[0,1,4,6,21],[4,5],[0,1,4,6,7],[0,1,4,6,7,26],[0,1,4,6,7],[0,1,4,6,7,40],[4,5],[0,1,4,6,7],[0,1,4,6,8],[0,1,4,6,8,9],[0,1,4,6,8,9,52],[0,1,4,6,8,9],[0,1,4,6,8,9,10],[0,1,4,6,8,9],[4,5]]) [] 18 = some ref04_Mix_c := by kernel_rfl
end Go.Proofs.YtmjgehbpcchjpaaGreatDoor.F

namespace Go.Proofs.YtmjgehbpcchjpaaGreatDoor
open Go Go.Proofs Go.Proofs.YtmjgehbpcchjpaaGreatDoor.E
set_option linter.unusedSimpArgs false
set_option linter.unusedVariables false
theorem ref02_Make {p q : Int} (h0 : 0 ≤ p) (h1 : p < 4611686018427387904) (h2 : 0 < q) (h3 : q < 4611686018427387904) : CallD Tryz.prog F.ref02_Make [.int .i64 p, .int .i64 q] (· = .tup [ratV (mkRat p q.toNat), .int .i64 0]) := by
 refine callD_by F.ref02_Make_ok ?_
 unfold F.ref02_Make_c
 have d2 : ∀ n : Int, n < 4611686018427387904 → (digs n).length ≤ 2 := fun n h => digs_length_le (by omega)
 have a1 : (p.natAbs : Int) = p := by omega
 have a2 : (q.natAbs : Int) = q := by omega
 have e1 : ¬ p < 0 := by omega
 have e2 : ¬ q < 0 := by omega
 have s1 := ref02_size (n := p) (by omega) (by omega)
 have s2 := ref02_size (n := q) (by omega) (by omega)
 rw [a1] at s1
 rw [a2] at s2
 simp [setOb, List.filter_cons]
 refine callK_of s1 (by simp) ?_
 simp
 refine callK_of s2 (by simp) ?_
 simp [e1, e2]
 have key := ref02_Of (neg := false) (a := digs p) (b := digs q) (digs_dig _) (digs_dig _) (by have := d2 p h1; omega) (by have := d2 q h3; omega)
 rw [val_digs h0, val_digs (by omega), if_neg (by omega)] at key
 refine callK_of key (by simp) ?_
 simp [setOb, List.filter_cons, toD_rawc, ratV, raw_v, sgn]
theorem ref04_parts {m : Ms} {K : Nat} (hK : 1 ≤ K) (hm : m.Ok K) (hl : m.parts.length ≤ 1000) (hb : K ≤ 100000) (hc : ∀ p ∈ m.parts, cntT p.v ≤ 1000000) : CallD Tryz.prog F.ref04_parts [m.v] (· = pl (normP m.parts)) :=
 callD_of_new (ref04_partsX hK hm hl hb hc) (by omega) (by simp) fun r hr σ n => by obtain ⟨x, _, rfl⟩ := List.mem_map.1 hr; exact toD_partC _ _ _
def tailJ (a b c d e : Raw) (g : Nat) : List V := tailC a b (if g ≤ 0 then rawOf 0 else c) (if g ≤ 1 then rawOf 0 else d) (if g ≤ 2 then rawOf 0 else e)
set_option maxHeartbeats 8000000 in
theorem ref04_comes {m : Ms} {K : Nat} (hK : 1 ≤ K) (hm : m.Ok K) (hl : m.parts.length ≤ 1000) (hb : K ≤ 100000) (hc : ∀ p ∈ m.parts, cntT p.v ≤ 1000000) : CallD Tryz.prog F.ref04_comes [m.v] (· = (normM m).v) := by
 have K31 : K ≤ 2 ^ 31 := by omega
 have prt := ref04_parts hK hm hl hb hc
 refine callD_by F.ref04_comes_ok ?_
 unfold F.ref04_comes_c
 simp [setOb, List.filter_cons, msC, tailC]
 refine callK_of ref04_None (by simp) ?_
 simp [setOb, List.filter_cons, msN, msC, tailC]
 refine callK_of prt (by simp [msC, tailC]) ?_
 simp [setOb, List.filter_cons]
 refine callFK_of ref02_Zero (by simp) ?_
 simp [ratV, raw_v]
 refine callFK_of (radd0 K31 hm.rf) (by simp [Raw.v, Raw.c]) ?_
 simp [ratV, Raw.v, setOb, List.filter_cons]
 refine callFK_of ref02_Zero (by simp) ?_
 simp [ratV, raw_v]
 refine callFK_of (radd0 K31 hm.lo) (by simp [Raw.v, Raw.c]) ?_
 simp [ratV, Raw.v, setOb, List.filter_cons]
 refine wm_loop (fun g : Nat => ((((Sl.empty.set 4 (.int .i64 g)).set 3 (.ptr 2 0 0)).set 2 (.ptr 1 0 0)).set 1 (.ptr 0 0 0),
  [(2, ⟨.own, 16, [pl (normP m.parts) :: tailJ (rawOf m.rf.q) (rawOf m.lo.q) (rawOf m.f0.q) (rawOf m.f1.q) (rawOf m.f2.q) g]⟩), (1, ⟨.own, 16, [zero16]⟩), (0, ⟨.own, 16, [msC m]⟩)]))
  (fun g => g ≤ 3) (fun g => 3 - g) 0 (by omega) ?_ ?_
 ·refine weak_obs ?_ (by simp [tailJ, zero16, msC, tailC]) (by repeat (first | exact sin_empty | refine sin_set (by simp) ?_)) (by simp [tailJ, zero16, msC, tailC])
  repeat (first | exact sub_empty | refine sub_set (by simp) ?_)
 intro g hg
 by_cases c : g < 3
 ·have hg3 : g = 0 ∨ g = 1 ∨ g = 2 := by omega
  rcases hg3 with rfl | rfl | rfl
  ·simp [tailJ, msC, tailC, zero16]
   refine callFK_of ref02_Zero (by simp) ?_
   simp [ratV, raw_v]
   refine callFK_of (radd0 K31 hm.f0) (by simp [Raw.v, Raw.c]) ?_
   simp [ratV, Raw.v, setOb, List.filter_cons]
   rw [wrap64 (by omega) (by omega)]
   refine ⟨1, by omega, by dsimp only; omega, ?_⟩
   refine weak_obs ?_ (by simp [tailJ, zero16, msC, tailC]) (by repeat (first | exact sin_empty | refine sin_set (by simp) ?_)) (by simp [tailJ, zero16, msC, tailC])
   repeat (first | exact sub_empty | refine sub_set (by simp) ?_)
  ·simp [tailJ, msC, tailC, zero16]
   refine callFK_of ref02_Zero (by simp) ?_
   simp [ratV, raw_v]
   refine callFK_of (radd0 K31 hm.f1) (by simp [Raw.v, Raw.c]) ?_
   simp [ratV, Raw.v, setOb, List.filter_cons]
   rw [wrap64 (by omega) (by omega)]
   refine ⟨2, by omega, by dsimp only; omega, ?_⟩
   refine weak_obs ?_ (by simp [tailJ, zero16, msC, tailC]) (by repeat (first | exact sin_empty | refine sin_set (by simp) ?_)) (by simp [tailJ, zero16, msC, tailC])
   repeat (first | exact sub_empty | refine sub_set (by simp) ?_)
  ·simp [tailJ, msC, tailC, zero16]
   refine callFK_of ref02_Zero (by simp) ?_
   simp [ratV, raw_v]
   refine callFK_of (radd0 K31 hm.f2) (by simp [Raw.v, Raw.c]) ?_
   simp [ratV, Raw.v, setOb, List.filter_cons]
   rw [wrap64 (by omega) (by omega)]
   refine ⟨3, by omega, by dsimp only; omega, ?_⟩
   refine weak_obs ?_ (by simp [tailJ, zero16, msC, tailC]) (by repeat (first | exact sin_empty | refine sin_set (by simp) ?_)) (by simp [tailJ, zero16, msC, tailC])
   repeat (first | exact sub_empty | refine sub_set (by simp) ?_)
 have hg3 : g = 3 := by omega
 subst hg3
 simp [tailJ, msC, tailC, zero16, normM, setOb, List.filter_cons]
def addL (i : Nat) : Sl := ((((Sl.empty.set 6 (.int .i64 i)).set 5 (.ptr 3 0 0)).set 4 (.ptr 2 0 0)).set 3 (.ptr 1 0 0)).set 2 (.ptr 0 0 0)
def addT (m n : Ms) (q i : Nat) : Sto := [(0, ⟨.own, 16, [msC m]⟩), (1, ⟨.own, 16, [msC n]⟩), (2, ⟨.own, 16, [zero16]⟩),
 (3, ⟨.own, 16, [.ref q 0 (m.parts.length + n.parts.length) :: tailG (rawOf (m.rf.q + n.rf.q)) (rawOf (m.lo.q + n.lo.q)) (rawOf (m.f0.q + n.f0.q)) (rawOf (m.f1.q + n.f1.q)) (rawOf (m.f2.q + n.f2.q)) i]⟩), (q, ⟨.own, 6, (m.parts ++ n.parts).map partC⟩)]
theorem addL_def (i : Nat) : addL i = ((((Sl.empty.set 6 (.int .i64 i)).set 5 (.ptr 3 0 0)).set 4 (.ptr 2 0 0)).set 3 (.ptr 1 0 0)).set 2 (.ptr 0 0 0) := rfl
theorem addT_def (m n : Ms) (q i : Nat) : addT m n q i = [(0, ⟨.own, 16, [msC m]⟩), (1, ⟨.own, 16, [msC n]⟩), (2, ⟨.own, 16, [zero16]⟩),
 (3, ⟨.own, 16, [.ref q 0 (m.parts.length + n.parts.length) :: tailG (rawOf (m.rf.q + n.rf.q)) (rawOf (m.lo.q + n.lo.q)) (rawOf (m.f0.q + n.f0.q)) (rawOf (m.f1.q + n.f1.q)) (rawOf (m.f2.q + n.f2.q)) i]⟩), (q, ⟨.own, 6, (m.parts ++ n.parts).map partC⟩)] := rfl
theorem addT_in (m n : Ms) (q i : Nat) : ∀ p ∈ addT m n q i, ∀ r ∈ p.2.cells, ∀ y ∈ r, y.within (fun o => ((addT m n q i).map (·.1)).contains o) = true := by
 intro p hp r hr y hy
 simp only [addT, List.mem_cons, List.not_mem_nil, or_false] at hp
 rcases hp with rfl | rfl | rfl | rfl | rfl
 ·simp only [List.mem_singleton] at hr; subst hr; exact msC_in m y hy _
 ·simp only [List.mem_singleton] at hr; subst hr; exact msC_in n y hy _
 ·simp only [List.mem_singleton] at hr; subst hr; exact zero16_in y hy _
 ·simp only [List.mem_singleton] at hr; subst hr
  rcases List.mem_cons.1 hy with rfl | hy
  ·simp [addT]
  ·exact tailG_in _ _ _ _ _ i y (List.mem_cons_of_mem _ hy) _
 ·obtain ⟨c, _, rfl⟩ := List.mem_map.1 hr
  exact partC_inner c y hy _
theorem addT_weak {m n : Ms} {q i : Nat} {S : Sl} {σ : Sto} (hq : 4 ≤ q) (hs : Sub (addL i) S) (h : ∀ p ∈ addT m n q i, E.look σ p.1 = some p.2) : Weak [] (addL i) (addT m n q i) S σ := by
 refine weak_obs hs h ?_ (addT_in m n q i)
 unfold addL
 repeat (first | exact sin_empty | refine sin_set (by simp [addT]) ?_)
set_option maxHeartbeats 16000000 in
theorem ref04_Add {m n : Ms} {K : Nat} (hK : 1 ≤ K) (hb : K ≤ 40000) (hm : m.Ok K) (hn : n.Ok K) (lm : m.parts.length ≤ 400) (ln : n.parts.length ≤ 400) (cm : ∀ p ∈ m.parts, cntT p.v ≤ 1000000) (cn : ∀ p ∈ n.parts, cntT p.v ≤ 1000000) : CallD Tryz.prog F.ref04_Add [m.v, n.v] (· = (normM (addM m n)).v) := by
 have K31 : K ≤ 2 ^ 31 := by omega
 have come := ref04_comes (K := 2 * K + 1) (by omega) (addM_ok hK hm hn) (by rw [addM_len]; omega) (by omega) (addM_cnt cm cn)
 refine callD_by F.ref04_Add_ok ?_
 unfold F.ref04_Add_c
 simp [setOb, List.filter_cons, msC, tailC]
 refine callFK_of (ref02_Add (rok hm.rf K31) (rok hn.rf K31)) (by simp [Raw.v]) ?_
 simp [ratV, Raw.v]
 refine callFK_of (ref02_Add (rok hm.lo K31) (rok hn.lo K31)) (by simp [Raw.v]) ?_
 simp [ratV, Raw.v, setOb, List.filter_cons]
 rcases hA : m.parts with _ | ⟨p, A⟩ <;> rcases hB : n.parts with _ | ⟨r, B⟩ <;> simp [hA, hB] at lm ln <;>
  simp (disch := omega) [offs, V.off, setOb, List.filter_cons, if_pos]
 all_goals
  first
   | (refine wm_loop (fun g : Nat × Nat => (addL g.2, addT m n g.1 g.2)) (fun g => g.2 ≤ 3 ∧ 4 ≤ g.1) (fun g => 3 - g.2) (4, 0) ?_ (addT_weak ?_ ?_ ?_) ?_
      ·simp
      ·simp
      ·unfold addL; repeat (first | exact sub_empty | refine sub_set (by simp) ?_)
      ·simp [addT, tailG, tailC, msC, zero16, hA, hB])
   | (refine wm_loop (fun g : Nat × Nat => (addL g.2, addT m n g.1 g.2)) (fun g => g.2 ≤ 3 ∧ 4 ≤ g.1) (fun g => 3 - g.2) (5, 0) ?_ (addT_weak ?_ ?_ ?_) ?_
      ·simp
      ·simp
      ·unfold addL; repeat (first | exact sub_empty | refine sub_set (by simp) ?_)
      ·simp [addT, tailG, tailC, msC, zero16, hA, hB])
   | (refine wm_loop (fun g : Nat × Nat => (addL g.2, addT m n g.1 g.2)) (fun g => g.2 ≤ 3 ∧ 4 ≤ g.1) (fun g => 3 - g.2) (6, 0) ?_ (addT_weak ?_ ?_ ?_) ?_
      ·simp
      ·simp
      ·unfold addL; repeat (first | exact sub_empty | refine sub_set (by simp) ?_)
      ·simp [addT, tailG, tailC, msC, zero16, hA, hB])
 all_goals
  rintro ⟨q, g⟩ ⟨hg, hq⟩
  dsimp only at hg hq
  have q0 : ¬ q = 0 := by omega
  have q1 : ¬ q = 1 := by omega
  have q2 : ¬ q = 2 := by omega
  have q3 : ¬ q = 3 := by omega
  have p0 : ¬ 0 = q := by omega
  have p1 : ¬ 1 = q := by omega
  have p2 : ¬ 2 = q := by omega
  have p3 : ¬ 3 = q := by omega
  clear hA hB lm ln
  have hg3 : g = 0 ∨ g = 1 ∨ g = 2 ∨ g = 3 := by omega
  rcases hg3 with rfl | rfl | rfl | rfl
  ·dsimp only; rw [addL_def 0, addT_def m n q 0]; simp [tailG, tailC, msC, zero16, q0, q1, q2, q3, p0, p1, p2, p3, setOb, List.filter_cons]
   refine callFK_of (ref02_Add (rok hm.f0 K31) (rok hn.f0 K31)) (by simp [Raw.v]) ?_
   simp [ratV, Raw.v, q0, q1, q2, q3, p0, p1, p2, p3, setOb, List.filter_cons]
   rw [wrap64 (by omega) (by omega)]
   refine ⟨(q, 1), ⟨by simp, hq⟩, by dsimp only; omega, addT_weak hq ?_ ?_⟩
   ·unfold addL; repeat (first | exact sub_empty | refine sub_set (by simp) ?_)
   ·simp [addT, tailG, tailC, msC, zero16, q0, q1, q2, q3, p0, p1, p2, p3]
  ·dsimp only; rw [addL_def 1, addT_def m n q 1]; simp [tailG, tailC, msC, zero16, q0, q1, q2, q3, p0, p1, p2, p3, setOb, List.filter_cons]
   refine callFK_of (ref02_Add (rok hm.f1 K31) (rok hn.f1 K31)) (by simp [Raw.v]) ?_
   simp [ratV, Raw.v, q0, q1, q2, q3, p0, p1, p2, p3, setOb, List.filter_cons]
   rw [wrap64 (by omega) (by omega)]
   refine ⟨(q, 2), ⟨by simp, hq⟩, by dsimp only; omega, addT_weak hq ?_ ?_⟩
   ·unfold addL; repeat (first | exact sub_empty | refine sub_set (by simp) ?_)
   ·simp [addT, tailG, tailC, msC, zero16, q0, q1, q2, q3, p0, p1, p2, p3]
  ·dsimp only; rw [addL_def 2, addT_def m n q 2]; simp [tailG, tailC, msC, zero16, q0, q1, q2, q3, p0, p1, p2, p3, setOb, List.filter_cons]
   refine callFK_of (ref02_Add (rok hm.f2 K31) (rok hn.f2 K31)) (by simp [Raw.v]) ?_
   simp [ratV, Raw.v, q0, q1, q2, q3, p0, p1, p2, p3, setOb, List.filter_cons]
   rw [wrap64 (by omega) (by omega)]
   refine ⟨(q, 3), ⟨by simp, hq⟩, by dsimp only; omega, addT_weak hq ?_ ?_⟩
   ·unfold addL; repeat (first | exact sub_empty | refine sub_set (by simp) ?_)
   ·simp [addT, tailG, tailC, msC, zero16, q0, q1, q2, q3, p0, p1, p2, p3]
  ·dsimp only; rw [addL_def 3, addT_def m n q 3]; simp [tailG, tailC, msC, zero16, q0, q1, q2, q3, p0, p1, p2, p3, setOb, List.filter_cons]
   have hall : ∀ r ∈ List.map partC m.parts ++ List.map partC n.parts, ∀ (σ : Sto) (k : Nat), mapO (toD σ (k + 1)) r = some r := fun r hr σ k => by
    rcases List.mem_append.1 hr with h | h <;> (obtain ⟨x, _, rfl⟩ := List.mem_map.1 h; exact toD_partC _ _ _)
   have hrch : ∀ (σ : Sto) (k : Nat), ∀ r ∈ List.map partC m.parts ++ List.map partC n.parts, r.flatMap (rch σ (k + 1)) = [] := fun σ k r hr => by
    rcases List.mem_append.1 hr with h | h <;> (obtain ⟨x, _, rfl⟩ := List.mem_map.1 h; exact rch_partM _ _ _)
   refine callK_of come (by
    simp [addM, msC, tailC]
    rw [toD_refM (k := 10) (st := .own) (es := 6) (l := List.map partC m.parts ++ List.map partC n.parts) (by simp [getOb, E.look, p0, p1, p2, p3]) (by simp) (by simp) (fun r hr => hall r hr _ _)]
    simp [Ms.v, msC, tailC]) ?_
   have h4 : ∀ σ : Sto, getOb σ q = some ⟨.own, 6, List.map partC m.parts ++ List.map partC n.parts⟩ → rch σ 11 (.ref q 0 (m.parts.length + n.parts.length)) = [q] := fun σ h => rch_flatM h (by simp) (hrch _ _)
   simp [h4, getOb, rchs, E.deep, E.look, frz, p0, p1, p2, p3, q0, q1, q2, q3, setOb, List.filter_cons, msC, tailC]
set_option maxHeartbeats 16000000 in
theorem ref04_Scale {m : Ms} {w : Raw} {K : Nat} (hK : 1 ≤ K) (hm : m.Ok K) (hw : w.Ok K) (hl : m.parts.length ≤ 1000) (hb : K ≤ 50000) (hc : ∀ p ∈ m.parts, cntT p.v ≤ 1000000) : CallD Tryz.prog F.ref04_Scale [m.v, w.v] (· = (normM (sclM m w.q)).v) := by
 have K31 : K ≤ 2 ^ 31 := by omega
 have come := ref04_comes (K := 2 * K) (by omega) (sclM_ok hK hm hw) (by rw [sclM_len]; exact hl) (by omega) (sclM_cnt hc)
 refine callD_by F.ref04_Scale_ok ?_
 unfold F.ref04_Scale_c
 simp [setOb, List.filter_cons, msC, tailC, Raw.v]
 refine callFK_of (ref02_Mul (rok hm.rf K31) (rok hw K31)) (by simp [Raw.v]) ?_
 simp [ratV, Raw.v]
 refine callFK_of (ref02_Mul (rok hm.lo K31) (rok hw K31)) (by simp [Raw.v]) ?_
 simp [ratV, Raw.v, setOb, List.filter_cons]
 have ho := hm.parts
 generalize hL : m.parts = l at hl ho
 have lS : (sclP l w.q).length = l.length := by simp [sclP]
 have inS : ∀ n, ∀ r ∈ List.take n (List.map partC (sclP l w.q)), ∀ y ∈ r, ∀ p : Nat → Bool, y.within p = true := fun n r hr y hy p => by
  obtain ⟨x, _, rfl⟩ := List.mem_map.1 (List.mem_of_mem_take hr)
  exact partC_inner x y hy p
 let A := rawOf (m.rf.q * w.q)
 let B := rawOf (m.lo.q * w.q)
 refine wm_loop (fun g : Nat × Nat => (((((Sl.empty.set 6 (.int .i64 g.2)).set 5 (.ptr 3 0 0)).set 4 (.ptr 2 0 0)).set 3 (.ptr 1 0 0)).set 2 (.ptr 0 0 0),
  [(0, ⟨.own, 16, [pl l :: tailC m.rf m.lo m.f0 m.f1 m.f2]⟩), (1, ⟨.own, 3, [w.c]⟩), (2, ⟨.own, 16, [zero16]⟩), (3, ⟨.own, 16, [grown g.1 g.2 :: tailG A B A A A 0]⟩)] ++ grownS g.1 6 g.2 ((List.map partC (sclP l w.q)).take g.2)))
  (fun g => g.2 ≤ l.length ∧ 3 < g.1) (fun g => l.length - g.2) (4, 0) (by simp) ?_ ?_
 ·refine weak_obs ?_ (by simp [grown_zero, grownS_zero, tailC, tailG, zero16, Raw.c, A, B]) (by repeat (first | exact sin_empty | refine sin_set (by simp [grown_zero]) ?_)) (by simp [grown_zero, grownS_zero, tailC, tailG, zero16, Raw.c])
  repeat (first | exact sub_empty | refine sub_set (by simp [hL]) ?_)
 rintro ⟨o, i⟩ ⟨hi, o3⟩
 dsimp only at hi o3
 have q0 : ¬ o = 0 := by omega
 have q1 : ¬ o = 1 := by omega
 have q2 : ¬ o = 2 := by omega
 have q3 : ¬ o = 3 := by omega
 have p0 : ¬ 0 = o := by omega
 have p1 : ¬ 1 = o := by omega
 have p2 : ¬ 2 = o := by omega
 have p3 : ¬ 3 = o := by omega
 by_cases h1 : i < l.length
 ·obtain ⟨okv, okw⟩ := ho _ (List.getElem_mem h1)
  have tk : List.take 6 (partC l[i]) = partC l[i] := by simp
  have e1 := scl_take (r := w.q) h1
  have ed : List.drop 6 (l[i].v.cells ++ [V.bool false, V.nils, V.nils]) = [] := List.drop_eq_nil_of_le (by simp)
  have et3 : List.take 3 (l[i].v.cells ++ [V.bool false, V.nils, V.nils]) = l[i].v.cells := List.take_left' (by simp)
  have ep : l[i].v.cells ++ [V.bool (rawOf (l[i].w.q * w.q)).neg, nat (rawOf (l[i].w.q * w.q)).num, nat (rawOf (l[i].w.q * w.q)).den] = partC ⟨l[i].v, rawOf (l[i].w.q * w.q)⟩ := rfl
  by_cases hi0 : i = 0
  ·subst hi0
   simp at e1
   simp [h1, tk, tailG, grown_zero, grownS_zero, setOb, List.filter_cons]
   refine callFK_of (ref02_Mul (rok okw K31) (rok hw K31)) (by simp [toD_rawc, raw_v]) ?_
   simp (disch := omega) [ratV, Raw.v, ed, et3, ep, setOb, List.filter_cons, Nat.max_eq_right, Nat.max_eq_left, if_neg, if_pos]
   rw [wrap64 (by omega) (by omega)]
   refine ⟨(5, 1), ⟨h1, by dsimp only; omega⟩, by dsimp only; omega, ?_⟩
   refine weak_obs ?_ ?_ (by repeat (first | exact sin_empty | refine sin_set (by simp [grownS_pos]) ?_)) ?_
   ·repeat (first | exact sub_empty | refine sub_set (by simp) ?_)
   ·simp (disch := omega) [grownS_pos, grown_pos, e1, tailG, tailC, zero16, Raw.c, if_neg]
   ·simp only [grownS_pos (show 1 ≠ 0 by omega), grown_pos (show 1 ≠ 0 by omega)]
    intro p hp r hr y hy
    simp only [List.cons_append, List.nil_append, List.mem_cons, List.not_mem_nil, or_false] at hp
    rcases hp with rfl | rfl | rfl | rfl | rfl
    ·simp only [List.mem_singleton] at hr; subst hr
     rcases List.mem_cons.1 hy with rfl | hy
     ·simp [V.within]
     ·exact tail_in _ _ _ _ _ y hy _
    ·simp only [List.mem_singleton] at hr; subst hr; exact rawc_within _ y hy
    ·simp only [List.mem_singleton] at hr; subst hr; exact zero16_in y hy _
    ·simp only [List.mem_singleton] at hr; subst hr
     rcases List.mem_cons.1 hy with rfl | hy
     ·simp [V.within]
     ·exact tailG_in A B A A A 0 y (List.mem_cons_of_mem _ (by simpa [tailG] using hy)) _
    ·exact inS _ r hr y hy _
  ·simp (disch := omega) [h1, tk, lS, Nat.min_eq_left, tailG, grown_pos hi0, grownS_pos hi0, q0, q1, q2, q3, p0, p1, p2, p3, setOb, List.filter_cons, Nat.max_eq_right, Nat.max_eq_left, if_neg, if_pos]
   refine callFK_of (ref02_Mul (rok okw K31) (rok hw K31)) (by simp [toD_rawc, raw_v]) ?_
   simp (disch := omega) [ratV, Raw.v, lS, Nat.min_eq_left, ed, et3, ep, q0, q1, q2, q3, p0, p1, p2, p3, setOb, List.filter_cons, Nat.max_eq_right, Nat.max_eq_left, if_neg, if_pos]
   rw [wrap64 (by omega) (by omega)]
   refine ⟨(o + 2, i + 1), ⟨h1, by dsimp only; omega⟩, by dsimp only; omega, ?_⟩
   refine weak_obs ?_ ?_ (by repeat (first | exact sin_empty | refine sin_set (by simp [grownS_pos]) ?_)) ?_
   ·repeat (first | exact sub_empty | refine sub_set (by simp) ?_)
   ·simp (config := { maxSteps := 2000000 }) (disch := omega) [grownS_pos, grown_pos, e1, tailG, tailC, zero16, Raw.c, q0, q1, q2, q3, if_neg]
   ·simp only [grownS_pos (show i + 1 ≠ 0 by omega), grown_pos (show i + 1 ≠ 0 by omega)]
    intro p hp r hr y hy
    simp only [List.cons_append, List.nil_append, List.mem_cons, List.not_mem_nil, or_false] at hp
    rcases hp with rfl | rfl | rfl | rfl | rfl
    ·simp only [List.mem_singleton] at hr; subst hr
     rcases List.mem_cons.1 hy with rfl | hy
     ·simp [V.within]
     ·exact tail_in _ _ _ _ _ y hy _
    ·simp only [List.mem_singleton] at hr; subst hr; exact rawc_within _ y hy
    ·simp only [List.mem_singleton] at hr; subst hr; exact zero16_in y hy _
    ·simp only [List.mem_singleton] at hr; subst hr
     rcases List.mem_cons.1 hy with rfl | hy
     ·simp [V.within]
     ·exact tailG_in A B A A A 0 y (List.mem_cons_of_mem _ (by simpa [tailG] using hy)) _
    ·exact inS _ r hr y hy _
 ·have hil : i = l.length := by omega
  subst hil
  simp [h1, setOb, List.filter_cons]
  have et : List.take l.length (List.map partC (sclP l w.q)) = List.map partC (sclP l w.q) := List.take_of_length_le (by simp [lS])
  rw [et]
  let C := rawOf (m.f0.q * w.q)
  let D := rawOf (m.f1.q * w.q)
  let G := rawOf (m.f2.q * w.q)
  refine wm_loop (fun g : Nat => (((((Sl.empty.set 7 (.int .i64 g)).set 5 (.ptr 3 0 0)).set 4 (.ptr 2 0 0)).set 3 (.ptr 1 0 0)).set 2 (.ptr 0 0 0),
   [(0, ⟨.own, 16, [pl l :: tailC m.rf m.lo m.f0 m.f1 m.f2]⟩), (1, ⟨.own, 3, [w.c]⟩), (2, ⟨.own, 16, [zero16]⟩), (3, ⟨.own, 16, [grown o l.length :: tailG A B C D G g]⟩)] ++ grownS o 6 l.length (List.map partC (sclP l w.q))))
   (fun g => g ≤ 3) (fun g => 3 - g) 0 (by omega) ?_ ?_
  ·by_cases n0 : l.length = 0
   ·simp only [n0, grown_zero, grownS_zero]
    refine weak_obs ?_ (by simp [tailG, tailC, zero16, Raw.c, A, B, C, D, G]) (by repeat (first | exact sin_empty | refine sin_set (by simp) ?_)) (by simp [tailG, tailC, zero16, Raw.c, V.within])
    repeat (first | exact sub_empty | refine sub_set (by simp) ?_)
   ·simp only [grown_pos n0, grownS_pos n0]
    refine weak_obs ?_ (by simp (config := { maxSteps := 2000000 }) (disch := omega) [tailG, tailC, zero16, Raw.c, q0, q1, q2, q3, p0, p1, p2, p3, if_neg, List.filter_cons, A, B, C, D, G]) (by repeat (first | exact sin_empty | refine sin_set (by simp) ?_)) ?_
    ·repeat (first | exact sub_empty | refine sub_set (by simp) ?_)
    ·intro p hp r hr y hy
     simp only [List.cons_append, List.nil_append, List.mem_cons, List.not_mem_nil, or_false] at hp
     rcases hp with rfl | rfl | rfl | rfl | rfl
     ·simp only [List.mem_singleton] at hr; subst hr
      rcases List.mem_cons.1 hy with rfl | hy
      ·simp [V.within]
      ·exact tail_in _ _ _ _ _ y (by simpa [tailC] using hy) _
     ·simp only [List.mem_singleton] at hr; subst hr; exact rawc_within _ y hy
     ·simp only [List.mem_singleton] at hr; subst hr; exact zero16_in y hy _
     ·simp only [List.mem_singleton] at hr; subst hr
      rcases List.mem_cons.1 hy with rfl | hy
      ·simp [V.within]
      ·exact tailG_in A B C D G 0 y (List.mem_cons_of_mem _ (by simpa [tailG] using hy)) _
     ·exact inS l.length r (by rw [et]; exact hr) y hy _
  intro g hg
  by_cases c : g < 3
  ·have hg3 : g = 0 ∨ g = 1 ∨ g = 2 := by omega
   rcases hg3 with e | e | e
   ·subst e
    simp (disch := omega) [tailG, tailC, setOb, List.filter_cons, if_neg]
    refine callFK_of (ref02_Mul (rok hm.f0 K31) (rok hw K31)) (by simp [toD_rawc, raw_v, Raw.c]) ?_
    simp (disch := omega) [ratV, Raw.v, setOb, List.filter_cons, if_neg]
    rw [wrap64 (by omega) (by omega)]
    refine ⟨1, by omega, by dsimp only; omega, ?_⟩
    by_cases n0 : l.length = 0
    ·simp only [n0, grown_zero, grownS_zero]
     refine weak_obs ?_ (by simp [tailG, tailC, zero16, Raw.c, A, B, C, D, G]) (by repeat (first | exact sin_empty | refine sin_set (by simp) ?_)) (by simp [tailG, tailC, zero16, Raw.c, V.within])
     repeat (first | exact sub_empty | refine sub_set (by simp) ?_)
    ·simp only [grown_pos n0, grownS_pos n0]
     refine weak_obs ?_ (by simp (config := { maxSteps := 2000000 }) (disch := omega) [tailG, tailC, zero16, Raw.c, q0, q1, q2, q3, p0, p1, p2, p3, if_neg, List.filter_cons, A, B, C, D, G]) (by repeat (first | exact sin_empty | refine sin_set (by simp) ?_)) ?_
     ·repeat (first | exact sub_empty | refine sub_set (by simp) ?_)
     ·intro p hp r hr y hy
      simp only [List.cons_append, List.nil_append, List.mem_cons, List.not_mem_nil, or_false] at hp
      rcases hp with rfl | rfl | rfl | rfl | rfl
      ·simp only [List.mem_singleton] at hr; subst hr
       rcases List.mem_cons.1 hy with rfl | hy
       ·simp [V.within]
       ·exact tail_in _ _ _ _ _ y (by simpa [tailC] using hy) _
      ·simp only [List.mem_singleton] at hr; subst hr; exact rawc_within _ y hy
      ·simp only [List.mem_singleton] at hr; subst hr; exact zero16_in y hy _
      ·simp only [List.mem_singleton] at hr; subst hr
       rcases List.mem_cons.1 hy with rfl | hy
       ·simp [V.within]
       ·exact tailG_in A B C D G 1 y (List.mem_cons_of_mem _ (by simpa [tailG] using hy)) _
      ·exact inS l.length r (by rw [et]; exact hr) y hy _
   ·subst e
    simp (disch := omega) [tailG, tailC, setOb, List.filter_cons, if_neg]
    refine callFK_of (ref02_Mul (rok hm.f1 K31) (rok hw K31)) (by simp [toD_rawc, raw_v, Raw.c]) ?_
    simp (disch := omega) [ratV, Raw.v, setOb, List.filter_cons, if_neg]
    rw [wrap64 (by omega) (by omega)]
    refine ⟨2, by omega, by dsimp only; omega, ?_⟩
    by_cases n0 : l.length = 0
    ·simp only [n0, grown_zero, grownS_zero]
     refine weak_obs ?_ (by simp [tailG, tailC, zero16, Raw.c, A, B, C, D, G]) (by repeat (first | exact sin_empty | refine sin_set (by simp) ?_)) (by simp [tailG, tailC, zero16, Raw.c, V.within])
     repeat (first | exact sub_empty | refine sub_set (by simp) ?_)
    ·simp only [grown_pos n0, grownS_pos n0]
     refine weak_obs ?_ (by simp (config := { maxSteps := 2000000 }) (disch := omega) [tailG, tailC, zero16, Raw.c, q0, q1, q2, q3, p0, p1, p2, p3, if_neg, List.filter_cons, A, B, C, D, G]) (by repeat (first | exact sin_empty | refine sin_set (by simp) ?_)) ?_
     ·repeat (first | exact sub_empty | refine sub_set (by simp) ?_)
     ·intro p hp r hr y hy
      simp only [List.cons_append, List.nil_append, List.mem_cons, List.not_mem_nil, or_false] at hp
      rcases hp with rfl | rfl | rfl | rfl | rfl
      ·simp only [List.mem_singleton] at hr; subst hr
       rcases List.mem_cons.1 hy with rfl | hy
       ·simp [V.within]
       ·exact tail_in _ _ _ _ _ y (by simpa [tailC] using hy) _
      ·simp only [List.mem_singleton] at hr; subst hr; exact rawc_within _ y hy
      ·simp only [List.mem_singleton] at hr; subst hr; exact zero16_in y hy _
      ·simp only [List.mem_singleton] at hr; subst hr
       rcases List.mem_cons.1 hy with rfl | hy
       ·simp [V.within]
       ·exact tailG_in A B C D G 2 y (List.mem_cons_of_mem _ (by simpa [tailG] using hy)) _
      ·exact inS l.length r (by rw [et]; exact hr) y hy _
   ·subst e
    simp (disch := omega) [tailG, tailC, setOb, List.filter_cons, if_neg]
    refine callFK_of (ref02_Mul (rok hm.f2 K31) (rok hw K31)) (by simp [toD_rawc, raw_v, Raw.c]) ?_
    simp (disch := omega) [ratV, Raw.v, setOb, List.filter_cons, if_neg]
    rw [wrap64 (by omega) (by omega)]
    refine ⟨3, by omega, by dsimp only; omega, ?_⟩
    by_cases n0 : l.length = 0
    ·simp only [n0, grown_zero, grownS_zero]
     refine weak_obs ?_ (by simp [tailG, tailC, zero16, Raw.c, A, B, C, D, G]) (by repeat (first | exact sin_empty | refine sin_set (by simp) ?_)) (by simp [tailG, tailC, zero16, Raw.c, V.within])
     repeat (first | exact sub_empty | refine sub_set (by simp) ?_)
    ·simp only [grown_pos n0, grownS_pos n0]
     refine weak_obs ?_ (by simp (config := { maxSteps := 2000000 }) (disch := omega) [tailG, tailC, zero16, Raw.c, q0, q1, q2, q3, p0, p1, p2, p3, if_neg, List.filter_cons, A, B, C, D, G]) (by repeat (first | exact sin_empty | refine sin_set (by simp) ?_)) ?_
     ·repeat (first | exact sub_empty | refine sub_set (by simp) ?_)
     ·intro p hp r hr y hy
      simp only [List.cons_append, List.nil_append, List.mem_cons, List.not_mem_nil, or_false] at hp
      rcases hp with rfl | rfl | rfl | rfl | rfl
      ·simp only [List.mem_singleton] at hr; subst hr
       rcases List.mem_cons.1 hy with rfl | hy
       ·simp [V.within]
       ·exact tail_in _ _ _ _ _ y (by simpa [tailC] using hy) _
      ·simp only [List.mem_singleton] at hr; subst hr; exact rawc_within _ y hy
      ·simp only [List.mem_singleton] at hr; subst hr; exact zero16_in y hy _
      ·simp only [List.mem_singleton] at hr; subst hr
       rcases List.mem_cons.1 hy with rfl | hy
       ·simp [V.within]
       ·exact tailG_in A B C D G 3 y (List.mem_cons_of_mem _ (by simpa [tailG] using hy)) _
      ·exact inS l.length r (by rw [et]; exact hr) y hy _
  have hg3 : g = 3 := by omega
  subst hg3
  simp [tailG, setOb, List.filter_cons]
  refine callK_of come (by
   simp [sclM, msC, tailC, hL]
   rw [toD_grown (k := 10) (st := .own) (es := 6) (l := List.map partC (sclP l w.q)) (fun h => by simp [grownS_pos h, E.look, p0, p1, p2, p3]) (by simp) (by simp) (by simp [lS]) (fun r hr => by obtain ⟨x, _, rfl⟩ := List.mem_map.1 hr; exact toD_partC _ _ _)]
   rfl) ?_
  by_cases n0 : l.length = 0
  ·simp [n0, grown_zero, grownS_zero, zero16, setOb, List.filter_cons, msC, tailC]
  ·have h4 : ∀ σ : Sto, getOb σ o = some ⟨.own, 6, List.map partC (sclP l w.q)⟩ → rch σ 11 (.ref o 0 l.length) = [o] := fun σ h => rch_flatM h (by simp [lS]) fun r hr => by
    obtain ⟨x, _, rfl⟩ := List.mem_map.1 hr
    exact rch_partM _ _ _
   simp [grown_pos n0, grownS_pos n0, h4, getOb, rchs, E.deep, E.look, frz, p0, p1, p2, p3, q0, q1, q2, q3, zero16, setOb, List.filter_cons, msC, tailC]
theorem mixM_none : normM (mixM []) = msN := by
 simp [mixM, normM, normP, fullP, nzP, sumBy, msN, rawOf_q]
theorem mixM_step {L : List (Ms × Rat)} {i : Nat} (h : i < L.length) : normM (addM (normM (mixM (L.take i))) (normM (sclM L[i].1 L[i].2))) = normM (mixM (L.take (i + 1))) := by
 obtain ⟨e1, e2, e3, e4, e5⟩ := mixM_q h
 have ep := mixM_parts h
 refine normM_ext ⟨fun v => ?_, ?_, ?_, ?_, ?_, ?_⟩
 ·rw [wsum_addM, wsum_normM, wsum_normM, ep, wsum_append, wsum_normM]
 ·rw [← e1, addM_rf, normM_rf, rawOf_q]
 ·rw [← e2, addM_lo, normM_lo, rawOf_q]
 ·rw [← e3, addM_f0, normM_f0, rawOf_q]
 ·rw [← e4, addM_f1, normM_f1, rawOf_q]
 ·rw [← e5, addM_f2, normM_f2, rawOf_q]
structure MixR (L : List (Ms × Rat)) : Prop where
 s : ∀ x ∈ L, CallD Tryz.prog F.ref04_Scale [x.1.v, (rawOf x.2).v] (· = (normM (sclM x.1 x.2)).v)
 a : ∀ (i : Nat) (h : i < L.length), CallD Tryz.prog F.ref04_Add [(normM (mixM (L.take i))).v, (normM (sclM L[i].1 L[i].2)).v] (· = (normM (addM (normM (mixM (L.take i))) (normM (sclM L[i].1 L[i].2)))).v)
set_option maxHeartbeats 8000000 in
theorem ref04_Mix {ms : List Ms} {odds : List Int} (lm : ms.length ≤ 1000) (h1 : odds.length ≤ 1000) (hB : ∀ x ∈ odds, -9223372036854775808 ≤ x ∧ x < 9223372036854775808) (hM : oddsOk ms odds = true → MixR (ms.zip (oddsR odds))) :
 CallD Tryz.prog F.ref04_Mix [.dat (ms.map msC), ilV odds] (· = mixV ms odds) := by
 refine callD_by F.ref04_Mix_ok ?_
 unfold F.ref04_Mix_c mixV
 by_cases hl : ms.length = odds.length
 case neg =>
  have e1 : ¬ (ms.length : Int) = (odds.length : Int) := by omega
  simp [ilV, hl, e1, oddsOk, ms0, msC, tailC, r00, setOb, List.filter_cons]
 by_cases h0 : odds = []
 ·have e1 : ms = [] := List.length_eq_zero_iff.1 (by rw [hl, h0]; rfl)
  subst h0 e1
  simp [ilV, oddsOk, ms0, msC, tailC, r00, setOb, List.filter_cons]
 simp [ilV, hl, h0, setOb, List.filter_cons]
 have hlen : 0 < odds.length := List.length_pos_iff.2 h0
 refine wm_loop (fun i : Nat => (((((Sl.empty.set 7 (.int .i64 i)).set 6 (.int .i64 (isum (odds.take i)))).set 4 (.ptr 0 0 0)).set 1 (ilV odds)).set 0 (.dat (ms.map msC)), [(0, ⟨.own, 16, [zero16]⟩)]))
  (fun i => i ≤ odds.length ∧ ∀ x ∈ odds.take i, 1 ≤ x ∧ x ≤ 1000) (fun i => odds.length - i) 0 (by simp) ?_ ?_
 ·refine weak_obs ?_ (by simp [zero16]) (by unfold ilV; repeat (first | exact sin_empty | refine sin_set (by simp) ?_)) (by simp [zero16])
  unfold ilV
  repeat (first | exact sub_empty | refine sub_set (by simp [isum]) ?_)
 rintro i ⟨hi, hg⟩
 by_cases hc : i < odds.length
 ·obtain ⟨t1, t2⟩ := isum_bound hg
  have t3 : (odds.take i).length ≤ 1000 := by rw [List.length_take]; omega
  have hst := isum_take hc
  have hb := hB _ (List.getElem_mem hc)
  by_cases g1 : odds[i] < 1
  ·have bad : oddsOk ms odds = false := by
    unfold oddsOk
    have : (odds.all fun x => decide (1 ≤ x) && decide (x ≤ 1000)) = false := by
     rw [List.all_eq_false]
     exact ⟨_, List.getElem_mem hc, by simp; omega⟩
    rw [this, Bool.and_false]
   simp [ilV, hc, g1, bad, zero16, ms0, msC, tailC, r00, setOb, List.filter_cons]
  by_cases g2 : 1000 < odds[i]
  ·have bad : oddsOk ms odds = false := by
    unfold oddsOk
    have : (odds.all fun x => decide (1 ≤ x) && decide (x ≤ 1000)) = false := by
     rw [List.all_eq_false]
     exact ⟨_, List.getElem_mem hc, by simp; omega⟩
    rw [this, Bool.and_false]
   simp [ilV, hc, g1, g2, bad, zero16, ms0, msC, tailC, r00, setOb, List.filter_cons]
  simp [ilV, hc, g1, g2, zero16, setOb, List.filter_cons]
  rw [wrap64 (by omega) (by omega), wrap64 (by omega) (by omega)]
  refine ⟨i + 1, ⟨hc, fun x hx => ?_⟩, by dsimp only; omega, ?_⟩
  ·rw [List.take_succ_eq_append_getElem hc] at hx
   rcases List.mem_append.1 hx with hx | hx
   ·exact hg x hx
   ·simp at hx; subst hx; omega
  ·refine weak_obs ?_ (by simp [zero16]) (by repeat (first | exact sin_empty | refine sin_set (by simp) ?_)) (by simp [zero16])
   repeat (first | exact sub_empty | refine sub_set (by simp [hst]) ?_)
 have hil : i = odds.length := by omega
 subst hil
 rw [List.take_length] at hg
 have good : oddsOk ms odds = true := by
  unfold oddsOk
  simp [hl, h0]
  exact hg
 obtain ⟨M1, M2⟩ := hM good
 obtain ⟨s1, s2⟩ := isum_bound hg
 have m16 : ∀ m : Ms, (msC m).length = 16 := fun m => by simp [msC, tailC]
 have k16 : ∀ m : Ms, List.take 16 (msC m) = msC m := fun m => by simp [msC, tailC]
 have d16 : ∀ m : Ms, List.drop 16 (msC m) = [] := fun m => by simp [msC, tailC]
 have tD : ∀ (m : Ms) (σ : Sto) (n : Nat), mapO (toD σ (n + 1)) (msC m) = some (msC m) := fun m σ n => by simp [msC, tailC]
 have rD : ∀ (m : Ms) (σ : Sto) (n : Nat), (msC m).flatMap (rch σ n) = [] := fun m σ n => by simp [msC, tailC]
 simp [ilV, good, zero16, setOb, List.filter_cons]
 refine callK_of ref04_None (by simp) ?_
 simp [Ms.v, m16, k16, d16, setOb, List.filter_cons]
 have lR : (oddsR odds).length = odds.length := by simp [oddsR]
 have lL : (ms.zip (oddsR odds)).length = ms.length := by rw [List.length_zip, lR]; omega
 have gL : ∀ i (h : i < ms.length) (h' : i < odds.length), (ms.zip (oddsR odds))[i]? = some (ms[i], mkRat odds[i] (isum odds).toNat) := fun i h h' => by
  rw [List.getElem?_eq_getElem (by omega)]; simp [oddsR]
 generalize hLe : ms.zip (oddsR odds) = L at *
 have fin : mixM (L.take L.length) = mixM L := by rw [List.take_length]
 have eA : normM (mixM (L.take 0)) = msN := by rw [List.take_zero]; exact mixM_none
 refine wm_loop (fun i : Nat => ((((((Sl.empty.set 9 (.int .i64 i)).set 8 (.ptr 1 0 0)).set 6 (.int .i64 (isum odds))).set 4 (.ptr 0 0 0)).set 1 (ilV odds)).set 0 (.dat (ms.map msC)), [(0, ⟨.own, 16, [zero16]⟩), (1, ⟨.own, 16, [msC (normM (mixM (L.take i)))]⟩)]))
  (fun i => i ≤ ms.length) (fun i => ms.length - i) 0 (by simp) ?_ ?_
 ·refine weak_obs ?_ (by simp [zero16, mixM_none]) (by unfold ilV; repeat (first | exact sin_empty | refine sin_set (by simp) ?_)) ?_
  ·unfold ilV
   repeat (first | exact sub_empty | refine sub_set (by simp) ?_)
  ·intro p hp r hr y hy
   simp only [List.mem_cons, List.not_mem_nil, or_false] at hp
   rcases hp with rfl | rfl <;> (simp only [List.mem_singleton] at hr; subst hr)
   ·exact zero16_in y hy _
   ·exact msC_in _ y hy _
 intro i hi
 by_cases h1' : i < ms.length
 ·have hiL : i < L.length := by omega
  have hio : i < odds.length := by omega
  have gi : L[i] = (ms[i], mkRat odds[i] (isum odds).toNat) := by
   have := gL i h1' hio
   rw [List.getElem?_eq_getElem hiL] at this
   exact Option.some.inj this
  have hgo := hg _ (List.getElem_mem hio)
  have mk := ref02_Make (p := odds[i]) (q := isum odds) (by omega) (by omega) (by omega) (by omega)
  have z1 := M1 _ (List.getElem_mem hiL)
  have z2 := M2 i hiL
  rw [mixM_step hiL] at z2
  rw [gi] at z1 z2
  dsimp only at z1 z2
  simp [ilV, h1', hio, m16, k16, zero16, setOb, List.filter_cons]
  refine callK_of mk (by simp) ?_
  generalize mkRat odds[i] (isum odds).toNat = w at *
  generalize hA' : mixM (L.take (i + 1)) = A' at *
  generalize hA : mixM (L.take i) = A at *
  simp [ratV, raw_v, rchs, rch, h1', m16, k16, setOb, List.filter_cons]
  refine callFK_of z1 (by simp [tD, toD_rawc, raw_v]) ?_
  simp [rD, rchs, E.deep, Ms.v]
  refine callFK_of z2 (by simp [tD]) ?_
  simp [rD, rchs, E.deep, Ms.v, m16, k16, d16, setOb, List.filter_cons]
  rw [wrap64 (by omega) (by omega)]
  refine ⟨i + 1, h1', by dsimp only; omega, ?_⟩
  refine weak_obs ?_ (by simp [hA']) (by repeat (first | exact sin_empty | refine sin_set (by simp) ?_)) ?_
  ·repeat (first | exact sub_empty | refine sub_set (by simp) ?_)
  ·intro p hp r hr y hy
   simp only [List.mem_cons, List.not_mem_nil, or_false] at hp
   rcases hp with rfl | rfl <;> (simp only [List.mem_singleton] at hr; subst hr)
   ·exact zero16_in y hy _
   ·exact msC_in _ y hy _
 ·have hil : i = L.length := by omega
  subst hil
  simp [ilV, h1', m16, k16, d16, tD, fin, zero16, setOb, List.filter_cons]
end Go.Proofs.YtmjgehbpcchjpaaGreatDoor
