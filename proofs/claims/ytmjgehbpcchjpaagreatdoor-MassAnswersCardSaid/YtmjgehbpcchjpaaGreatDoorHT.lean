import Derived.Test.YtmjgehbpcchjpaaGreatDoorHO
import Derived.Test.YtmjgehbpcchjpaaGreatDoorHS
namespace Go.Proofs.YtmjgehbpcchjpaaGreatDoor.F
open Go Go.Proofs Go.Proofs.YtmjgehbpcchjpaaGreatDoor.E Go.Proofs.YtmjgehbpcchjpaaGreatDoor.Q
abbrev ref04_put : Nat := 116
def ref04_put_c : MFn := ⟨71,(.seq (r [o 4 (.box (.t 1)),o 5 (.box (.t 2)),o 6 (.mv (.c .nils))] [0,4,5]) (.seq (r [o 7 (.mv (.c .nils))] [0,4,5,7]) (.seq (r [o 8 (.mv (.c (.bool false)))] [0,4,5,7,8]) (.seq (.seq (r [o 9 (.mv (i 0))] [0,4,5,7,8,9]) (.block 0 (.loop (.seq (.seq (r [o 12 (.mv (.t 9)),o 13 (.mv (.t 0)),o 14 (.lenS (.t 13)),o 15 (.bin .lss (.t 12) (.t 14))] [0,4,5,7,8,9,15]) (.cond (.t 15) .skip (.exit 0))) (.seq (.block 1 (.seq (r [o 18 (.ld (some 3) (.t 4)),o 19 (.mv (.t 0)),o 20 (.mv (.t 9)),o 21 (.ixA 6 (.t 19) (.t 20)),o 22 (.fA 0 (.t 21)),o 23 (.ld (some 3) (.t 22)),o 24 (.callF 101 [(.t 18),(.t 23)]),o 10 (.mv (.t 24))] [0,4,5,7,8,9,10]) (.seq (.seq (r [o 25 (.mv (.t 8)),o 26 (.un .not (.t 25)),o 27 (.mv (.t 26)),y 28 27 (.mv (.t 10)),y 29 27 (.bin .lss (.t 28) (i 0)),o 30 (.pick (.t 27) (.t 29) (.c (.bool false)))] [0,4,5,7,8,9,10,30]) (.cond (.t 30) (.seq (r [o 31 (.mv (.t 7)),o 32 (.ld (some 3) (.t 4)),o 33 (.callF 159 [(.t 32)]),o 34 (.ld (some 3) (.t 5)),o 35 (.callF 113 []),o 36 (.callF 81 [(.t 34),(.t 35)]),o 37 (.build zP [(0,3,(.t 33)),(3,3,(.t 36))]),o 38 (.buildSl 6 1 zP [(0,(.t 37))]),o 39 (.app 6 96 (.t 31) (.t 38)),o 7 (.mv (.t 39))] [0,4,5,7,9,10]) (r [o 8 (.mv (.c (.bool true)))] [0,4,5,7,8,9,10])) .skip)) (.seq (r [o 40 (.mv (.t 0)),o 41 (.mv (.t 9)),o 42 (.ixA 6 (.t 40) (.t 41)),o 43 (.ld (some 6) (.t 42)),o 11 (.alloc zP),z (.st 6 (.t 11) (.t 43))] [0,4,5,7,8,9,10,11]) (.seq (.seq (r [o 44 (.mv (.t 8)),o 45 (.un .not (.t 44)),o 46 (.mv (.t 45)),y 47 46 (.mv (.t 10)),y 48 46 (.bin .eql (.t 47) (i 0)),o 49 (.pick (.t 46) (.t 48) (.c (.bool false)))] [0,4,5,7,8,9,11,49]) (.cond (.t 49) (.seq (r [o 50 (.fA 3 (.t 11)),o 51 (.ld (some 3) (.t 50)),o 52 (.ld (some 3) (.t 5)),o 53 (.call 81 [(.t 51),(.t 52)]),o 54 (.fA 3 (.t 11)),z (.st 3 (.t 54) (.t 53))] [0,4,5,7,9,11]) (r [o 8 (.mv (.c (.bool true)))] [0,4,5,7,8,9,11])) .skip)) (r [o 55 (.mv (.t 7)),o 56 (.ld (some 6) (.t 11)),o 57 (.buildSl 6 1 zP [(0,(.t 56))]),o 58 (.app 6 96 (.t 55) (.t 57)),o 7 (.mv (.t 58))] [0,4,5,7,8,9])))))) (r [o 16 (.mv (.t 9)),o 17 (.bin .add (.t 16) (i 1)),o 9 (.mv (.t 17))] [0,4,5,7,8,9])))))) (.seq (.seq (r [o 59 (.mv (.t 8)),o 60 (.un .not (.t 59))] [4,5,7,60]) (.cond (.t 60) (r [o 61 (.mv (.t 7)),o 62 (.ld (some 3) (.t 4)),o 63 (.callF 159 [(.t 62)]),o 64 (.ld (some 3) (.t 5)),o 65 (.callF 113 []),o 66 (.callF 81 [(.t 64),(.t 65)]),o 67 (.build zP [(0,3,(.t 63)),(3,3,(.t 66))]),o 68 (.buildSl 6 1 zP [(0,(.t 67))]),o 69 (.app 6 96 (.t 61) (.t 68)),o 7 (.mv (.t 69))] [7]) .skip)) (.seq (r [o 70 (.mv (.t 7)),o 6 (.mv (.t 70))] [6]) .ret)))))),[.t 6]⟩
theorem ref04_put_ok : cFn Tryz.prog (kps [[0,4,5],[0,4,5,7],[0,4,5,7,8],[0,4,5,7,8,9],[0,4,5,7,8,9,15],[0,4,5,7,8,9],[0,4,5,7,8,9,10],[0,4,5,7,8,9,10,30],[0,4,5,7,9,10],[0,4,5,7,8,9,10],[0,4,5,7,8,9,10,11],[0,4,5,7,8,9,11,49],[0,4,5,7,9,11],[0,4,5,7,8,9,11],[0,4,5,7,8,9],[4,5,7,60],[7],[6]]) [] 116 = some ref04_put_c := by kernel_rfl
abbrev ref04_parts : Nat := 89
def ref04_parts_c : MFn := ⟨28,(.seq (r [o 1 (.box (.t 0)),o 2 (.mv (.c .nils))] [1]) (.seq (r [o 3 (.mv (.c .nils))] [1,3]) (.seq (.seq (r [o 4 (.mv (i 0))] [1,3,4]) (.block 0 (.loop (.seq (.seq (r [o 5 (.mv (.t 4)),o 6 (.fA 0 (.t 1)),o 7 (.ld none (.t 6)),o 8 (.lenS (.t 7)),o 9 (.bin .lss (.t 5) (.t 8))] [1,3,4,9]) (.cond (.t 9) .skip (.exit 0))) (.seq (.block 1 (r [o 12 (.mv (.t 3)),o 13 (.fA 0 (.t 1)),o 14 (.ld none (.t 13)),o 15 (.mv (.t 4)),o 16 (.ixA 6 (.t 14) (.t 15)),o 17 (.fA 0 (.t 16)),o 18 (.ld (some 3) (.t 17)),o 19 (.fA 0 (.t 1)),o 20 (.ld none (.t 19)),o 21 (.mv (.t 4)),o 22 (.ixA 6 (.t 20) (.t 21)),o 23 (.fA 3 (.t 22)),o 24 (.ld (some 3) (.t 23)),o 25 (.callF 116 [(.t 12),(.t 18),(.t 24)]),o 3 (.mv (.t 25))] [1,3,4])) (r [o 10 (.mv (.t 4)),o 11 (.bin .add (.t 10) (i 1)),o 4 (.mv (.t 11))] [1,3,4])))))) (.seq (r [o 26 (.mv (.t 3)),o 27 (.call 115 [(.t 26)]),o 2 (.mv (.t 27))] [2]) .ret)))),[.t 2]⟩
theorem ref04_parts_ok : cFn Tryz.prog (kps [[1],[1,3],[1,3,4],[1,3,4,9],[1,3,4],[1,3,4],[2]]) [] 89 = some ref04_parts_c := by kernel_rfl
abbrev ref04_Answer : Nat := 26
def ref04_Answer_c : MFn := ⟨35,(.seq (r [o 1 (.box (.t 0)),o 2 (.mv (.c .nils)),o 3 (.mv (i 0))] [1]) (.seq (r [o 7 (.ld (some 16) (.t 1)),o 8 (.call 53 [(.t 7)]),o 4 (.alloc zR),z (.st 3 (.t 4) (.t 8))] [1,4]) (.seq (.seq (r [o 9 (.ld (some 3) (.t 4)),o 10 (.call 88 [(.t 9)]),o 11 (.bin .eql (.t 10) (i 0))] [1,4,11]) (.cond (.t 11) (.seq (r [o 2 (.mv (.c .nils)),o 3 (.mv (i 31))] [2,3]) .ret) .skip)) (.seq (r [o 12 (.ld (some 16) (.t 1)),o 13 (.call 89 [(.t 12)]),o 5 (.mv (.t 13))] [4,5]) (.seq (.seq (r [o 6 (.mv (i 0))] [4,5,6]) (.block 0 (.loop (.seq (.seq (r [o 14 (.mv (.t 6)),o 15 (.mv (.t 5)),o 16 (.lenS (.t 15)),o 17 (.bin .lss (.t 14) (.t 16))] [4,5,6,17]) (.cond (.t 17) .skip (.exit 0))) (.seq (.block 1 (r [o 21 (.mv (.t 5)),o 22 (.mv (.t 6)),o 23 (.mv (.t 5)),o 24 (.mv (.t 6)),o 25 (.ixA 6 (.t 23) (.t 24)),o 26 (.fA 3 (.t 25)),o 27 (.ld (some 3) (.t 26)),o 28 (.ld (some 3) (.t 4)),o 29 (.callF 90 [(.t 27),(.t 28)]),o 20 (.mv (.t 29)),o 30 (.ext (.t 20) 0),o 31 (.ext (.t 20) 1),o 32 (.ixA 6 (.t 21) (.t 22)),o 33 (.fA 3 (.t 32)),z (.st 3 (.t 33) (.t 30))] [4,5,6])) (r [o 18 (.mv (.t 6)),o 19 (.bin .add (.t 18) (i 1)),o 6 (.mv (.t 19))] [4,5,6])))))) (.seq (r [o 34 (.mv (.t 5)),o 2 (.mv (.t 34)),o 3 (.mv (i 0))] [2,3]) .ret)))))),[.t 2,.t 3]⟩
theorem ref04_Answer_ok : cFn Tryz.prog (kps [[1],[1,4],[1,4,11],[2,3],[4,5],[4,5,6],[4,5,6,17],[4,5,6],[4,5,6],[2,3]]) [] 26 = some ref04_Answer_c := by kernel_rfl
abbrev ref04_Bounds : Nat := 28
def ref04_Bounds_c : MFn := ⟨45,(.seq (r [o 2 (.box (.t 0)),o 3 (.box (.t 1)),o 4 (.alloc zR),o 5 (.alloc zR),o 6 (.mv (i 0))] [2,3,4,5]) (.seq (r [o 12 (.ld (some 16) (.t 2)),o 13 (.ld (some 3) (.t 3)),o 14 (.call 55 [(.t 12),(.t 13)]),o 7 (.alloc zR),z (.st 3 (.t 7) (.t 14))] [2,4,5,7]) (.seq (r [o 16 (.ld (some 3) (.t 7)),o 17 (.ld (some 16) (.t 2)),o 18 (.callF 53 [(.t 17)]),o 19 (.fA 4 (.t 2)),o 20 (.ld (some 3) (.t 19)),o 21 (.callF 81 [(.t 18),(.t 20)]),o 22 (.callF 90 [(.t 16),(.t 21)]),o 15 (.mv (.t 22)),o 23 (.ext (.t 15) 0),o 24 (.ext (.t 15) 1),o 8 (.alloc zR),z (.st 3 (.t 8) (.t 23)),o 9 (.mv (.t 24))] [2,4,5,7,8,9]) (.seq (.seq (r [o 25 (.mv (.t 9)),o 26 (.bin .neq (.t 25) (i 0))] [2,4,5,7,8,9,26]) (.cond (.t 26) (.seq (r [o 27 (.build zR []),o 28 (.build zR []),o 29 (.mv (.t 9)),z (.st 3 (.t 4) (.t 27)),z (.st 3 (.t 5) (.t 28)),o 6 (.mv (.t 29))] [4,5,6]) .ret) .skip)) (.seq (r [o 31 (.ld (some 3) (.t 7)),o 32 (.fA 4 (.t 2)),o 33 (.ld (some 3) (.t 32)),o 34 (.callF 81 [(.t 31),(.t 33)]),o 35 (.ld (some 16) (.t 2)),o 36 (.callF 53 [(.t 35)]),o 37 (.fA 4 (.t 2)),o 38 (.ld (some 3) (.t 37)),o 39 (.callF 81 [(.t 36),(.t 38)]),o 40 (.callF 90 [(.t 34),(.t 39)]),o 30 (.mv (.t 40)),o 41 (.ext (.t 30) 0),o 42 (.ext (.t 30) 1),o 10 (.alloc zR),z (.st 3 (.t 10) (.t 41)),o 11 (.mv (.t 42))] [4,5,8,10]) (.seq (r [o 43 (.ld (some 3) (.t 8)),o 44 (.ld (some 3) (.t 10)),z (.stA 3 (.t 4) (.t 43) [10]),z (.st 3 (.t 5) (.t 44)),o 6 (.mv (i 0))] [4,5,6]) .ret)))))),[.cell 4 (some 3),.cell 5 (some 3),.t 6]⟩
theorem ref04_Bounds_ok : cFn Tryz.prog (kps [[2,3,4,5],[2,4,5,7],[2,4,5,7,8,9],[2,4,5,7,8,9,26],[4,5,6],[4,5,8,10],[4,5,6]]) [] 28 = some ref04_Bounds_c := by kernel_rfl
end Go.Proofs.YtmjgehbpcchjpaaGreatDoor.F

namespace Go.Proofs.YtmjgehbpcchjpaaGreatDoor
open Go Go.Proofs Go.Proofs.YtmjgehbpcchjpaaGreatDoor.E
set_option linter.unusedSimpArgs false
set_option linter.unusedVariables false
def putSl (l : List Part) (i : Nat) (d : Bool) (o n : Nat) : Sl := (((((Sl.empty.set 9 (.int .i64 i)).set 8 (.bool d)).set 7 (grown o n)).set 5 (.ptr 1 0 0)).set 4 (.ptr 0 0 0)).set 0 (pl l)
def putS0 (v : Tr) (w : Raw) (o : Nat) (G : List Part) : Sto := [(0, ⟨.own, 3, [v.cells]⟩), (1, ⟨.own, 3, [w.c]⟩)] ++ grownS o 6 G.length (G.map partC)
theorem weak_put {S : Sl} {σ : Sto} {l G : List Part} {i o : Nat} {d : Bool} {v : Tr} {w : Raw} (hn : G ≠ []) (h1 : Sub (putSl l i d o G.length) S) (h2 : E.look σ 0 = some ⟨.own, 3, [v.cells]⟩) (h3 : E.look σ 1 = some ⟨.own, 3, [w.c]⟩) (h4 : E.look σ o = some (obL G)) : Weak [] (putSl l i d o G.length) (putS0 v w o G) S σ := by
 have n0 : G.length ≠ 0 := fun h => hn (List.length_eq_zero_iff.1 h)
 unfold putSl putS0 at *
 rw [grown_pos n0] at *
 rw [grownS_pos n0]
 refine weak_obs h1 ?_ (by repeat (first | exact sin_empty | refine sin_set (by simp) ?_)) ?_
 ·simp; exact ⟨h2, h3, h4⟩
 ·intro p hp r hr y hy
  simp at hp
  rcases hp with rfl | rfl | rfl
  ·simp at hr; subst hr; exact cells_within _ y hy
  ·simp at hr; subst hr; exact rawc_within _ y hy
  ·obtain ⟨c, _, rfl⟩ := List.mem_map.1 hr
   exact partC_inner c y hy _
set_option maxHeartbeats 16000000 in
theorem ref04_put {l : List Part} {v : Tr} {w : Raw} (hl : l.length ≤ 10000) (ho : ∀ p ∈ l, p.v.Ok ∧ p.w.Ok (2 ^ 31)) (hv : v.Ok) (hm : cntT v ≤ 1000000) (hw : w.Ok (2 ^ 31)) : CallD Tryz.prog F.ref04_put [pl l, .agg v.cells, w.v] (· = pl (putP v w.q l)) := by
 refine callD_by F.ref04_put_ok ?_
 unfold F.ref04_put_c
 simp [setOb, List.filter_cons, raw_v]
 refine wm_loop (fun g : List Part × Bool × Nat × Nat => (putSl l g.2.2.1 g.2.1 g.2.2.2 g.1.length, putS0 v w g.2.2.2 g.1))
  (fun g => g.2.2.1 ≤ l.length ∧ 1 < g.2.2.2 ∧ g.1 ++ (if g.2.1 then l.drop g.2.2.1 else putP v w.q (l.drop g.2.2.1)) = putP v w.q l ∧ (g.1 = [] → g.2.2.1 = 0 ∧ g.2.1 = false) ∧ g.1.length ≤ g.2.2.1 + g.2.1.toNat) (fun g => l.length - g.2.2.1) ([], false, 0, 2) (by simp) ?_ ?_
 ·unfold putSl putS0
  simp only [List.length_nil, grown_zero, grownS_zero]
  refine weak_obs ?_ (by simp) (by repeat (first | exact sin_empty | refine sin_set (by simp) ?_)) (by simp; exact ⟨fun y hy => cells_within _ y hy, fun y hy => rawc_within _ y hy⟩)
  repeat (first | exact sub_empty | refine sub_set (by simp) ?_)
 rintro ⟨G, d, i, o⟩ ⟨hi, o1, hG, hG0, hGl⟩
 dsimp only at hi o1 hG hG0 hGl
 have q0 : ¬ o = 0 := by omega
 have q1 : ¬ o = 1 := by omega
 have p0 : ¬ 0 = o := by omega
 have p1 : ¬ 1 = o := by omega
 have ed : List.drop 6 (v.cells ++ [V.bool false, .nils, .nils]) = [] := List.drop_eq_nil_of_le (by simp)
 have et3 : List.take 3 (v.cells ++ [V.bool false, .nils, .nils]) = v.cells := List.take_left' (by simp)
 have ep : ∀ (u : Tr) (r : Raw), u.cells ++ [V.bool r.neg, nat r.num, nat r.den] = partC ⟨u, r⟩ := fun _ _ => rfl
 unfold putSl putS0
 by_cases h1 : i < l.length
 ·obtain ⟨okv, okw⟩ := ho _ (List.getElem_mem h1)
  have tk : List.take 6 (partC l[i]) = partC l[i] := by simp
  have ec3 : List.take 3 (partC l[i]) = l[i].v.cells := by unfold partC; exact List.take_left' (by simp)
  have ec6 : List.drop 3 (partC l[i]) = l[i].w.c := by unfold partC; exact List.drop_left' (by simp)
  have hd : l.drop i = l[i] :: l.drop (i + 1) := List.drop_eq_getElem_cons h1
  rw [hd] at hG
  by_cases g0 : G = []
  ·subst g0
   obtain ⟨i0, d0⟩ := hG0 rfl
   subst i0 d0
   simp only [List.length_nil, grown_zero, grownS_zero, List.append_nil]
   simp [h1, setOb, List.filter_cons]
   refine callFK_of (ref03_Compare hv okv) (by simp [toD_cells]) ?_
   by_cases c1 : cmpT v l[0].v < 0
   ·have hp : putP v w.q (l[0] :: l.drop (0 + 1)) = ⟨v, rawOf w.q⟩ :: l[0] :: l.drop (0 + 1) := if_pos c1
    simp only [Bool.false_eq_true, if_false, hp] at hG
    have c2 : ¬ cmpT v l[0].v = 0 := by omega
    simp [c1, c2, setOb, List.filter_cons]
    refine callFK_of (ref04_copied hv hm) (by simp [toD_cells]) ?_
    simp
    refine callFK_of ref02_Zero (by simp) ?_
    simp [ratV, raw_v]
    refine callFK_of (radd0 (Nat.le_refl _) hw) (by simp [toD_rawc, raw_v]) ?_
    simp (disch := omega) [ratV, Raw.v, Raw.c, ed, et3, ep, h1, tk, q0, q1, p0, p1, setOb, List.filter_cons, Nat.max_eq_right, Nat.max_eq_left, if_neg, if_pos]
    rw [wrap64 (by omega) (by omega)]
    refine ⟨([⟨v, rawOf w.q⟩, l[0]], true, 1, 6), ⟨h1, by dsimp only; omega, ?_, fun h => by simp at h, by first | (simp; done) | (simp; simp at hGl; omega)⟩, by dsimp only; omega, ?_⟩
    ·rw [← hG]; simp []
    ·refine weak_put (by simp) ?_ (by simp (disch := omega) [q0, q1, p0, p1, E.look, Raw.c, if_neg]) (by simp (disch := omega) [q0, q1, p0, p1, E.look, Raw.c, if_neg]) (by simp (disch := omega) [q0, q1, p0, p1, E.look, if_neg, obL, ep])
     unfold putSl
     rw [grown_pos (by simp)]
     repeat (first | exact sub_empty | refine sub_set (by simp) ?_)
   ·by_cases c2 : cmpT v l[0].v = 0
    ·have hp : putP v w.q (l[0] :: l.drop (0 + 1)) = ⟨l[0].v, rawOf (l[0].w.q + w.q)⟩ :: l.drop (0 + 1) := by unfold putP; rw [if_neg c1, if_pos c2]
     simp only [Bool.false_eq_true, if_false, hp] at hG
     simp (disch := omega) [c1, c2, h1, tk, q0, q1, p0, p1, ec3, ec6, setOb, List.filter_cons, Nat.max_eq_right, Nat.max_eq_left, if_neg, if_pos]
     refine callK_of (ref02_Add okw hw) (by simp [toD_rawc, raw_v]) ?_
     simp (disch := omega) [ratV, Raw.v, Raw.c, ed, et3, ep, h1, tk, q0, q1, p0, p1, setOb, List.filter_cons, Nat.max_eq_right, Nat.max_eq_left, if_neg, if_pos]
     rw [wrap64 (by omega) (by omega)]
     refine ⟨([⟨l[0].v, rawOf (l[0].w.q + w.q)⟩], true, 1, 4), ⟨h1, by dsimp only; omega, ?_, fun h => by simp at h, by first | (simp; done) | (simp; simp at hGl; omega)⟩, by dsimp only; omega, ?_⟩
     ·rw [← hG]; simp []
     ·refine weak_put (by simp) ?_ (by simp (disch := omega) [q0, q1, p0, p1, E.look, Raw.c, if_neg]) (by simp (disch := omega) [q0, q1, p0, p1, E.look, Raw.c, if_neg]) (by simp (disch := omega) [q0, q1, p0, p1, E.look, if_neg, obL, ep])
      unfold putSl
      rw [grown_pos (by simp)]
      repeat (first | exact sub_empty | refine sub_set (by simp) ?_)
    ·have hp : putP v w.q (l[0] :: l.drop (0 + 1)) = l[0] :: putP v w.q (l.drop (0 + 1)) := by show (if _ then _ else if _ then _ else _) = _; rw [if_neg c1, if_neg c2]
     simp only [Bool.false_eq_true, if_false, hp] at hG
     simp (disch := omega) [c1, c2, h1, tk, q0, q1, p0, p1, ec3, ec6, setOb, List.filter_cons, Nat.max_eq_right, Nat.max_eq_left, if_neg, if_pos]
     rw [wrap64 (by omega) (by omega)]
     refine ⟨([l[0]], false, 1, 4), ⟨h1, by dsimp only; omega, ?_, fun h => by simp at h, by first | (simp; done) | (simp; simp at hGl; omega)⟩, by dsimp only; omega, ?_⟩
     ·rw [← hG]; simp []
     ·refine weak_put (by simp) ?_ (by simp (disch := omega) [q0, q1, p0, p1, E.look, Raw.c, if_neg]) (by simp (disch := omega) [q0, q1, p0, p1, E.look, Raw.c, if_neg]) (by simp (disch := omega) [q0, q1, p0, p1, E.look, if_neg, obL, ep])
      unfold putSl
      rw [grown_pos (by simp)]
      repeat (first | exact sub_empty | refine sub_set (by simp) ?_)
  ·have n0 : G.length ≠ 0 := fun h => g0 (List.length_eq_zero_iff.1 h)
   rw [grown_pos n0, grownS_pos n0]
   simp (disch := omega) [h1, q0, q1, p0, p1, setOb, List.filter_cons, Nat.max_eq_right, Nat.max_eq_left, if_neg, if_pos]
   refine callFK_of (ref03_Compare hv okv) (by simp [toD_cells]) ?_
   have hGl2 : G.length ≤ l.length := by cases d <;> simp at hGl <;> omega
   cases d with
   | true =>
     simp only [if_true] at hG
     simp (disch := omega) [Bool.not_true, h1, tk, q0, q1, p0, p1, ec3, ec6, setOb, List.filter_cons, Nat.max_eq_right, Nat.max_eq_left, if_neg, if_pos]
     rw [wrap64 (by omega) (by omega)]
     refine ⟨(G ++ [l[i]], true, i + 1, o + 3), ⟨h1, by dsimp only; omega, ?_, fun h => by simp at h, by first | (simp; done) | (simp; simp at hGl; omega)⟩, by dsimp only; omega, ?_⟩
     ·rw [← hG]; simp []
     ·refine weak_put (by simp) ?_ (by simp (disch := omega) [q0, q1, p0, p1, E.look, Raw.c, if_neg]) (by simp (disch := omega) [q0, q1, p0, p1, E.look, Raw.c, if_neg]) (by simp (disch := omega) [q0, q1, p0, p1, E.look, if_neg, obL, ep])
      unfold putSl
      rw [grown_pos (by simp)]
      repeat (first | exact sub_empty | refine sub_set (by simp) ?_)
   | false =>
     by_cases c1 : cmpT v l[i].v < 0
     ·have hp : putP v w.q (l[i] :: l.drop (i + 1)) = ⟨v, rawOf w.q⟩ :: l[i] :: l.drop (i + 1) := if_pos c1
      simp only [Bool.false_eq_true, if_false, hp] at hG
      have c2 : ¬ cmpT v l[i].v = 0 := by omega
      simp [c1, c2, setOb, List.filter_cons]
      refine callFK_of (ref04_copied hv hm) (by simp [toD_cells]) ?_
      simp
      refine callFK_of ref02_Zero (by simp) ?_
      simp [ratV, raw_v]
      refine callFK_of (radd0 (Nat.le_refl _) hw) (by simp [toD_rawc, raw_v]) ?_
      simp (disch := omega) [ratV, Raw.v, Raw.c, ed, et3, ep, h1, tk, q0, q1, p0, p1, setOb, List.filter_cons, Nat.max_eq_right, Nat.max_eq_left, if_neg, if_pos]
      rw [wrap64 (by omega) (by omega)]
      refine ⟨(G ++ [⟨v, rawOf w.q⟩, l[i]], true, i + 1, o + 5), ⟨h1, by dsimp only; omega, ?_, fun h => by simp at h, by first | (simp; done) | (simp; simp at hGl; omega)⟩, by dsimp only; omega, ?_⟩
      ·rw [← hG]; simp []
      ·refine weak_put (by simp) ?_ (by simp (disch := omega) [q0, q1, p0, p1, E.look, Raw.c, if_neg]) (by simp (disch := omega) [q0, q1, p0, p1, E.look, Raw.c, if_neg]) (by simp (disch := omega) [q0, q1, p0, p1, E.look, if_neg, obL, ep])
       unfold putSl
       rw [grown_pos (by simp)]
       repeat (first | exact sub_empty | refine sub_set (by simp) ?_)
     ·by_cases c2 : cmpT v l[i].v = 0
      ·have hp : putP v w.q (l[i] :: l.drop (i + 1)) = ⟨l[i].v, rawOf (l[i].w.q + w.q)⟩ :: l.drop (i + 1) := by unfold putP; rw [if_neg c1, if_pos c2]
       simp only [Bool.false_eq_true, if_false, hp] at hG
       simp (disch := omega) [c1, c2, h1, tk, q0, q1, p0, p1, ec3, ec6, setOb, List.filter_cons, Nat.max_eq_right, Nat.max_eq_left, if_neg, if_pos]
       refine callK_of (ref02_Add okw hw) (by simp [toD_rawc, raw_v]) ?_
       simp (disch := omega) [ratV, Raw.v, Raw.c, ed, et3, ep, h1, tk, q0, q1, p0, p1, setOb, List.filter_cons, Nat.max_eq_right, Nat.max_eq_left, if_neg, if_pos]
       rw [wrap64 (by omega) (by omega)]
       refine ⟨(G ++ [⟨l[i].v, rawOf (l[i].w.q + w.q)⟩], true, i + 1, o + 3), ⟨h1, by dsimp only; omega, ?_, fun h => by simp at h, by first | (simp; done) | (simp; simp at hGl; omega)⟩, by dsimp only; omega, ?_⟩
       ·rw [← hG]; simp []
       ·refine weak_put (by simp) ?_ (by simp (disch := omega) [q0, q1, p0, p1, E.look, Raw.c, if_neg]) (by simp (disch := omega) [q0, q1, p0, p1, E.look, Raw.c, if_neg]) (by simp (disch := omega) [q0, q1, p0, p1, E.look, if_neg, obL, ep])
        unfold putSl
        rw [grown_pos (by simp)]
        repeat (first | exact sub_empty | refine sub_set (by simp) ?_)
      ·have hp : putP v w.q (l[i] :: l.drop (i + 1)) = l[i] :: putP v w.q (l.drop (i + 1)) := by show (if _ then _ else if _ then _ else _) = _; rw [if_neg c1, if_neg c2]
       simp only [Bool.false_eq_true, if_false, hp] at hG
       simp (disch := omega) [c1, c2, h1, tk, q0, q1, p0, p1, ec3, ec6, setOb, List.filter_cons, Nat.max_eq_right, Nat.max_eq_left, if_neg, if_pos]
       rw [wrap64 (by omega) (by omega)]
       refine ⟨(G ++ [l[i]], false, i + 1, o + 3), ⟨h1, by dsimp only; omega, ?_, fun h => by simp at h, by first | (simp; done) | (simp; simp at hGl; omega)⟩, by dsimp only; omega, ?_⟩
       ·rw [← hG]; simp []
       ·refine weak_put (by simp) ?_ (by simp (disch := omega) [q0, q1, p0, p1, E.look, Raw.c, if_neg]) (by simp (disch := omega) [q0, q1, p0, p1, E.look, Raw.c, if_neg]) (by simp (disch := omega) [q0, q1, p0, p1, E.look, if_neg, obL, ep])
        unfold putSl
        rw [grown_pos (by simp)]
        repeat (first | exact sub_empty | refine sub_set (by simp) ?_)
 ·have hil : i = l.length := by omega
  subst hil
  rw [List.drop_length] at hG
  simp only [putP] at hG
  cases d with
  | true =>
    have g0 : G ≠ [] := fun h => by have := (hG0 h).2; simp at this
    have n0 : G.length ≠ 0 := fun h => g0 (List.length_eq_zero_iff.1 h)
    simp only [if_true, List.append_nil] at hG
    rw [grown_pos n0, grownS_pos n0]
    simp
    rw [E.toD_ref (k := 11) (st := .own) (es := 6) (l := G.map partC) (by simp [E.look, q0, q1, p0, p1]) (by simp) (by simp) (by simp) (by simp [g0]) (fun r hr => by obtain ⟨p, _, rfl⟩ := List.mem_map.1 hr; exact toD_partC _ _ _)]
    rw [hG]
  | false =>
    simp only [Bool.false_eq_true, if_false] at hG
    rw [← hG]
    have hGl2 : G.length ≤ 10000 := by simp at hGl; omega
    by_cases g0 : G = []
    ·subst g0
     simp only [List.length_nil, grown_zero, grownS_zero, List.append_nil]
     simp [setOb, List.filter_cons]
     refine callFK_of (ref04_copied hv hm) (by simp [toD_cells]) ?_
     simp
     refine callFK_of ref02_Zero (by simp) ?_
     simp [ratV, raw_v]
     refine callFK_of (radd0 (Nat.le_refl _) hw) (by simp [toD_rawc, raw_v]) ?_
     simp (disch := omega) [ratV, Raw.v, Raw.c, ed, et3, ep, q0, q1, p0, p1, setOb, List.filter_cons, Nat.max_eq_right, Nat.max_eq_left, if_neg, if_pos]
     rw [E.toD_ref (k := 11) (st := .own) (es := 6) (l := [partC ⟨v, rawOf w.q⟩]) (by simp [E.look, ep]) (by simp) (by simp) (by simp) (by simp) (fun r hr => by simp at hr; subst hr; exact toD_partC _ _ _)]
     simp
    ·have n0 : G.length ≠ 0 := fun h => g0 (List.length_eq_zero_iff.1 h)
     rw [grown_pos n0, grownS_pos n0]
     simp (disch := omega) [q0, q1, p0, p1, setOb, List.filter_cons, Nat.max_eq_right, Nat.max_eq_left, if_neg, if_pos]
     refine callFK_of (ref04_copied hv hm) (by simp [toD_cells]) ?_
     simp
     refine callFK_of ref02_Zero (by simp) ?_
     simp [ratV, raw_v]
     refine callFK_of (radd0 (Nat.le_refl _) hw) (by simp [toD_rawc, raw_v]) ?_
     simp (disch := omega) [ratV, Raw.v, Raw.c, ed, et3, ep, q0, q1, p0, p1, setOb, List.filter_cons, Nat.max_eq_right, Nat.max_eq_left, if_neg, if_pos]
     rw [E.toD_ref (k := 11) (st := .own) (es := 6) (l := (G ++ [(⟨v, rawOf w.q⟩ : Part)]).map partC) (by simp [E.look, ep]) (by simp) (by simp) (by simp) (by simp) (fun r hr => by obtain ⟨p, _, rfl⟩ := List.mem_map.1 hr; exact toD_partC _ _ _)]
end Go.Proofs.YtmjgehbpcchjpaaGreatDoor

namespace Go.Proofs.YtmjgehbpcchjpaaGreatDoor
open Go Go.Proofs Go.Proofs.YtmjgehbpcchjpaaGreatDoor.E
set_option linter.unusedSimpArgs false
set_option linter.unusedVariables false
theorem normP_scl {l : List Part} {r : Rat} (hr : r ≠ 0) : sclP (normP l) r = normP (sclP l r) := by
 refine IsN.norm ⟨?_, fun p hp => ?_, fun v hv => ?_⟩
 ·unfold UpP sclP
  rw [List.pairwise_map]
  exact normP_up l
 ·obtain ⟨q, hq, rfl⟩ := List.mem_map.1 hp
  obtain ⟨h1, h2⟩ := normP_w hq
  rw [wsum_sclP]
  dsimp only
  rw [h1, rawOf_q]
  exact ⟨rfl, fun h => by rcases Rat.mul_eq_zero.1 h with h | h <;> contradiction⟩
 ·rw [wsum_sclP] at hv
  obtain ⟨q, hq, e⟩ := (normP_is l).all v (fun h => hv (by rw [h, Rat.zero_mul]))
  exact ⟨_, List.mem_map.2 ⟨q, hq, rfl⟩, e⟩
theorem fullP_ok {l : List Part} {k : Nat} (hk : 1 ≤ k) (h : ∀ p ∈ l, p.v.Ok ∧ p.w.Ok k) : ∀ p ∈ fullP l, p.v.Ok ∧ p.w.Ok (1 + l.length * (k + 1)) := fun p hp => by
 obtain ⟨q, hq, e⟩ := fullP_vals hp
 refine ⟨e ▸ (h q hq).1, ?_⟩
 rw [fullP_w hp]
 exact rawOf_ok (wsum_fits hk (fun x hx => Raw.fits (h x hx).2 hk) _)
theorem ref04_partsX {m : Ms} {K : Nat} (hK : 1 ≤ K) (hm : m.Ok K) (hl : m.parts.length ≤ 1000) (hb : K ≤ 1000) (hc : ∀ p ∈ m.parts, cntT p.v ≤ 1000000) : CallX Tryz.prog F.ref04_parts [m.v] [] (fun v s => ∃ o, v = grown o (normP m.parts).length ∧ s = grownS o 6 (normP m.parts).length ((normP m.parts).map partC)) := by
 have fb : ∀ i, (fullP (m.parts.take i)).length ≤ 1000 ∧ ∀ p ∈ fullP (m.parts.take i), p.v.Ok ∧ p.w.Ok (2 ^ 31) := fun i => by
  have h1 : (m.parts.take i).length ≤ 1000 := by rw [List.length_take]; omega
  refine ⟨Nat.le_trans (fullP_len _) h1, fun p hp => ?_⟩
  obtain ⟨a, b⟩ := fullP_ok hK (fun p hp => hm.parts p (List.mem_of_mem_take hp)) p hp
  have := Nat.mul_le_mul h1 (show K + 1 ≤ 1001 by omega)
  exact ⟨a, rok b (by omega)⟩
 refine callX_by F.ref04_parts_ok ?_
 unfold F.ref04_parts_c
 simp [setOb, List.filter_cons, raw_v, msC, tailC]
 generalize hL : m.parts = l at *
 refine wm_loop (fun i : Nat => (((Sl.empty.set 4 (.int .i64 i)).set 3 (if i = 0 then .nils else pl (fullP (l.take i)))).set 1 (.ptr 0 0 0), [(0, ⟨.own, 16, [pl l :: tailC m.rf m.lo m.f0 m.f1 m.f2]⟩)]))
  (fun i => i ≤ l.length) (fun i => l.length - i) 0 (by omega) ?_ ?_
 ·refine weak_obs ?_ (by simp [tailC]) (by repeat (first | exact sin_empty | refine sin_set (by simp) ?_)) (by simp [tailC])
  repeat (first | exact sub_empty | refine sub_set (by simp) ?_)
 intro i hi
 by_cases h1 : i < l.length
 ·obtain ⟨okv, okw⟩ := hm.parts _ (by rw [hL]; exact List.getElem_mem h1)
  have cv := hc _ (List.getElem_mem h1)
  obtain ⟨b1, b2⟩ := fb i
  have key := ref04_put (l := fullP (l.take i)) (v := l[i].v) (w := l[i].w) (by omega) b2 okv cv (rok okw (by omega))
  rw [← fullP_take h1] at key
  have fin : ∀ (S : Sl) (σ : Sto), Sub (((Sl.empty.set 4 (.int .i64 ((i + 1 : Nat) : Int))).set 3 (if i + 1 = 0 then .nils else pl (fullP (l.take (i + 1))))).set 1 (.ptr 0 0 0)) S → E.look σ 0 = some ⟨.own, 16, [pl l :: tailC m.rf m.lo m.f0 m.f1 m.f2]⟩ → Weak [] (((Sl.empty.set 4 (.int .i64 ((i + 1 : Nat) : Int))).set 3 (if i + 1 = 0 then .nils else pl (fullP (l.take (i + 1))))).set 1 (.ptr 0 0 0)) [(0, ⟨.own, 16, [pl l :: tailC m.rf m.lo m.f0 m.f1 m.f2]⟩)] S σ := fun S σ s1 s2 => weak_obs s1 (by simpa using s2) (by repeat (first | exact sin_empty | refine sin_set (by simp) ?_)) (by simp [tailC])
  by_cases i0 : i = 0
  ·subst i0
   simp [h1, tailC, setOb, List.filter_cons]
   refine callFK_of key (by simp [toD_cells, toD_rawc, raw_v, fullP]) ?_
   simp [setOb, List.filter_cons]
   rw [wrap64 (by omega) (by omega)]
   refine ⟨1, h1, by dsimp only; omega, fin _ _ ?_ (by simp [E.look, tailC])⟩
   repeat (first | exact sub_empty | refine sub_set (by simp) ?_)
  ·simp [h1, i0, tailC, setOb, List.filter_cons]
   refine callFK_of key (by simp [toD_cells, toD_rawc, raw_v]) ?_
   simp [setOb, List.filter_cons]
   rw [wrap64 (by omega) (by omega)]
   refine ⟨i + 1, h1, by dsimp only; omega, fin _ _ ?_ (by simp [E.look, tailC])⟩
   repeat (first | exact sub_empty | refine sub_set (by simp) ?_)
 ·have hil : i = l.length := by omega
  subst hil
  obtain ⟨b1, b2⟩ := fb l.length
  rw [List.take_length] at b1 b2
  have hN : nzP (fullP l) = normP l := rfl
  have wh := ref04_wholeX (l := fullP l) (by omega) (fun p hp => rok (b2 p hp).2 (by omega))
  rw [hN] at wh
  simp [tailC]
  refine callK_X (wh.new (fun r hr y hy => by obtain ⟨x, _, rfl⟩ := List.mem_map.1 hr; exact partC_inner x y hy _) ?_ ?_) ?_
  ·by_cases n0 : l = []
   ·simp [n0, fullP]
   ·simp [n0]
  ·by_cases n0 : l = []
   ·simp [n0, rchs, rch, E.deep]
   ·simp [n0, rchs, rch, E.deep]
  rintro r s ⟨rfl, rfl⟩
  simp
  refine E.doneX_new (by simp) (by simp; rfl) rfl (fun h0 => ?_) (fun r hr y hy p => by obtain ⟨x, _, rfl⟩ := List.mem_map.1 hr; exact partC_inner x y hy _)
  rw [took, if_neg h0, look_setOb]
  simp
def rowsA (L : List Part) (r : Rat) (i : Nat) : List Part := (sclP L r).take i ++ L.drop i
theorem rowsA_zero (L : List Part) (r : Rat) : rowsA L r 0 = L := by simp [rowsA]
theorem rowsA_len {L : List Part} {r : Rat} {i : Nat} (h : i ≤ L.length) : (rowsA L r i).length = L.length := by simp [rowsA, sclP]; omega
theorem rowsA_all (L : List Part) (r : Rat) : rowsA L r L.length = sclP L r := by unfold rowsA; rw [List.take_of_length_le (by simp [sclP]), List.drop_length, List.append_nil]
theorem rowsA_get {L : List Part} {r : Rat} {i : Nat} (h : i < L.length) : (rowsA L r i)[i]? = some L[i] := by
 unfold rowsA
 rw [List.getElem?_append_right (by simp [sclP]; omega), List.getElem?_drop]
 have : (List.take i (sclP L r)).length = i := by simp [sclP]; omega
 rw [this]
 simp [h]
theorem rowsA_set {L : List Part} {r : Rat} {i : Nat} (h : i < L.length) : (rowsA L r i).set i ⟨L[i].v, rawOf (L[i].w.q * r)⟩ = rowsA L r (i + 1) := by
 unfold rowsA
 have e1 : (List.take i (sclP L r)).length = i := by simp [sclP]; omega
 rw [List.set_append_right _ _ (by omega), e1, Nat.sub_self, List.drop_eq_getElem_cons h, List.set_cons_zero]
 rw [List.take_succ_eq_append_getElem (by simpa [sclP] using h)]
 simp [sclP]
end Go.Proofs.YtmjgehbpcchjpaaGreatDoor

namespace Go.Proofs.YtmjgehbpcchjpaaGreatDoor
open Go Go.Proofs Go.Proofs.YtmjgehbpcchjpaaGreatDoor.E
set_option linter.unusedSimpArgs false
set_option linter.unusedVariables false
theorem one_div_ne {x : Rat} (h : x ≠ 0) : 1 / x ≠ 0 := fun e => by
 have := Rat.div_mul_cancel (a := 1) h
 rw [e, Rat.zero_mul] at this
 exact absurd this (by decide)
theorem mul_one_div (a x : Rat) : a * (1 / x) = a / x := by rw [Rat.div_def, Rat.div_def, Rat.one_mul]
theorem ref04_Answer {m : Ms} {K : Nat} (hK : 1 ≤ K) (hm : m.Ok K) (hl : m.parts.length ≤ 1000) (hb : K ≤ 1000) (hc : ∀ p ∈ m.parts, cntT p.v ≤ 1000000) : CallD Tryz.prog F.ref04_Answer [m.v] (· = ansV m.parts) := by
 have p1 : m.parts.length * (K + 1) ≤ 1000 * 1001 := Nat.mul_le_mul hl (by omega)
 have fp := psum_fits hK hm.parts
 refine callD_by F.ref04_Answer_ok ?_
 unfold F.ref04_Answer_c ansV
 simp [setOb, List.filter_cons, msC, tailC]
 refine callK_of (ref04_Values hK (by omega) hm (by omega) (by omega)) (by simp [msC, tailC]) ?_
 simp [ratV, raw_v, setOb, List.filter_cons]
 refine callK_of (ref02_Sign (rawOf_ok (fp.mono (by omega)))) (by simp [toD_rawc, raw_v]) ?_
 rw [rawOf_q]
 by_cases h0 : psum m.parts = 0
 ·simp [h0, sgnR_zero, setOb, List.filter_cons]
 have h0' : ¬ sgnR (psum m.parts) = 0 := fun h => h0 (sgnR_zero_iff.1 h)
 simp [h0, h0', setOb, List.filter_cons]
 have scl := normP_scl (l := m.parts) (one_div_ne h0)
 refine callK_X ((ref04_partsX hK hm hl hb hc).new (fun r hr y hy => by obtain ⟨x, _, rfl⟩ := List.mem_map.1 hr; exact partC_inner x y hy _) (by simp [msC, tailC]) (by simp [rchs, rch, E.deep, msC, tailC])) ?_
 rw [← scl]
 have ow : ∀ p ∈ normP m.parts, p.w.Ok (2 ^ 31) := fun p hp => by
  rw [(normP_w hp).1]
  exact rawOf_ok ((wsum_fits hK (fun z hz => Raw.fits (hm.parts z hz).2 hK) _).mono (by omega))
 have ln : (normP m.parts).length ≤ 1000 := Nat.le_trans (normP_len _) hl
 generalize normP m.parts = L at *
 rintro r s ⟨rfl, rfl⟩
 by_cases n0 : L.length = 0
 ·have e0 := List.length_eq_zero_iff.1 n0
  subst e0
  simp [took, grown_zero, setOb, List.filter_cons]
  refine wm_loop (fun g : Nat => (((Sl.empty.set 6 (.int .i64 0)).set 5 .nils).set 4 (.ptr 1 0 0), [(1, ⟨.own, 3, [(rawOf (psum m.parts)).c]⟩)])) (fun _ => True) (fun g => g) 0 trivial ?_ ?_
  ·refine weak_obs ?_ (by simp) (by repeat (first | exact sin_empty | refine sin_set (by simp) ?_)) (by simp; exact fun y hy => rawc_within _ y hy)
   repeat (first | exact sub_empty | refine sub_set (by simp) ?_)
  rintro g -
  simp [sclP]
 ·simp [took, n0, grown_pos n0, setOb, List.filter_cons]
  refine wm_loop (fun i : Nat => (((Sl.empty.set 6 (.int .i64 i)).set 5 (.ref 2 0 L.length)).set 4 (.ptr 1 0 0), [(1, ⟨.own, 3, [(rawOf (psum m.parts)).c]⟩), (2, obL (rowsA L (1 / psum m.parts) i))])) (fun i => i ≤ L.length) (fun i => L.length - i) 0 (by omega) ?_ ?_
  ·refine weak_obs ?_ (by simp [rowsA_zero]) (by repeat (first | exact sin_empty | refine sin_set (by simp) ?_)) ?_
   ·repeat (first | exact sub_empty | refine sub_set (by simp) ?_)
   ·intro p hp r hr y hy
    simp at hp
    rcases hp with rfl | rfl
    ·simp at hr; subst hr; exact rawc_within _ y hy
    ·obtain ⟨c, _, rfl⟩ := List.mem_map.1 hr
     exact partC_inner c y hy _
  intro i hi
  by_cases h1 : i < L.length
  ·have okw := ow _ (List.getElem_mem h1)
   have hlen := rowsA_len (L := L) (r := 1 / psum m.parts) (i := i) (by omega)
   have hg : (rowsA L (1 / psum m.parts) i)[i]'(by omega) = L[i] := by
    have := rowsA_get (r := 1 / psum m.parts) h1
    rw [List.getElem?_eq_getElem (by omega)] at this
    exact Option.some.inj this
   have hs := rowsA_set (r := 1 / psum m.parts) h1
   rw [mul_one_div] at hs
   have et : List.take 3 (partC L[i]) = L[i].v.cells := by unfold partC; exact List.take_left' (by simp)
   have ed : List.drop 6 (partC L[i]) = [] := List.drop_eq_nil_of_le (by simp)
   have ep : L[i].v.cells ++ (rawOf (L[i].w.q / psum m.parts)).c = partC ⟨L[i].v, rawOf (L[i].w.q / psum m.parts)⟩ := rfl
   simp [h1, hlen, hg, setOb, List.filter_cons]
   refine callFK_of (ref02_Div okw (rawOf_ok (fp.mono (by omega)))) (by simp [toD_rawc, raw_v]) ?_
   rw [rawOf_q]
   simp [divR, h0, ratV, raw_v, h1, hlen, hg, et, ed, ep, ← List.map_set, hs, setOb, List.filter_cons]
   rw [wrap64 (by omega) (by omega)]
   refine ⟨i + 1, h1, by dsimp only; omega, ?_⟩
   refine weak_obs ?_ (by simp) (by repeat (first | exact sin_empty | refine sin_set (by simp) ?_)) ?_
   ·repeat (first | exact sub_empty | refine sub_set (by simp) ?_)
   ·intro p hp r hr y hy
    simp at hp
    rcases hp with rfl | rfl
    ·simp at hr; subst hr; exact rawc_within _ y hy
    ·obtain ⟨c, _, rfl⟩ := List.mem_map.1 hr
     exact partC_inner c y hy _
  ·have hil : i = L.length := by omega
   subst hil
   simp [rowsA_all]
   rw [toD_refM (k := 10) (es := 6) (st := .own) (l := (sclP L (1 / psum m.parts)).map partC) (by simp [getOb, E.look]) (by simp) (by simp [sclP]) (fun r hr => by obtain ⟨x, _, rfl⟩ := List.mem_map.1 hr; exact toD_partC _ _ _)]
theorem ref04_Bounds {m : Ms} {v : Tr} {K : Nat} (hK : 1 ≤ K) (hm : m.Ok K) (hv : v.Ok) (hl : m.parts.length ≤ 1000) (hb : K ≤ 1000) : CallD Tryz.prog F.ref04_Bounds [m.v, .agg v.cells] (· = bndV m v) := by
 have p1 : m.parts.length * (K + 1) ≤ 1000 * 1001 := Nat.mul_le_mul hl (by omega)
 have f1 : Fits (psum m.parts) (2 ^ 24) := (psum_fits hK hm.parts).mono (by omega)
 have f2 : Fits (wsum m.parts v) (2 ^ 24) := (wsum_fits hK (fun x hx => Raw.fits (hm.parts x hx).2 hK) v).mono (by omega)
 have f3 : Fits m.lo.q (2 ^ 24) := (Raw.fits hm.lo hK).mono (by omega)
 have f4 : Fits (psum m.parts + m.lo.q) (2 ^ 26) := (fits_add f1 f3).mono (by omega)
 have f5 : Fits (wsum m.parts v + m.lo.q) (2 ^ 26) := (fits_add f2 f3).mono (by omega)
 have vals := ref04_Values hK (by omega) hm (by omega) (by omega)
 have add := ref02_Add (rawOf_ok (f1.mono (show 2 ^ 24 ≤ 2 ^ 31 by omega))) (rok hm.lo (show K ≤ 2 ^ 31 by omega))
 rw [rawOf_q] at add
 refine callD_by F.ref04_Bounds_ok ?_
 unfold F.ref04_Bounds_c bndV
 simp [setOb, List.filter_cons, msC, tailC]
 refine callK_of (ref04_Weight hK (by omega) hm hv (by omega) (by omega)) (by simp [msC, tailC, toD_cells]) ?_
 simp [ratV, Raw.v, setOb, List.filter_cons]
 refine callFK_of vals (by simp [msC, tailC]) ?_
 simp [ratV, Raw.v]
 refine callFK_of add (by simp [Raw.v]) ?_
 simp [ratV, Raw.v]
 refine callFK_of (ref02_Div (rawOf_ok (f2.mono (by omega))) (rawOf_ok (f4.mono (by omega)))) (by simp [Raw.v]) ?_
 rw [rawOf_q, rawOf_q]
 by_cases h0 : psum m.parts + m.lo.q = 0
 ·simp [divR, h0, setOb, List.filter_cons]
 simp [divR, h0, ratV, Raw.v, setOb, List.filter_cons]
 refine callFK_of (ref02_Add (rawOf_ok (f2.mono (by omega))) (rok hm.lo (by omega))) (by simp [Raw.v]) ?_
 rw [rawOf_q]
 simp [ratV, Raw.v]
 refine callFK_of vals (by simp [msC, tailC]) ?_
 simp [ratV, Raw.v]
 refine callFK_of add (by simp [Raw.v]) ?_
 simp [ratV, Raw.v]
 refine callFK_of (ref02_Div (rawOf_ok (f5.mono (by omega))) (rawOf_ok (f4.mono (by omega)))) (by simp [Raw.v]) ?_
 rw [rawOf_q, rawOf_q]
 simp [divR, h0, ratV, Raw.v, setOb, List.filter_cons, offs, V.off]
end Go.Proofs.YtmjgehbpcchjpaaGreatDoor
