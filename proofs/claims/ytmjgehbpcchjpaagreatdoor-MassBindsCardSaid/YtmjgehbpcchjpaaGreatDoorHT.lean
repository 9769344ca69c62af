import Derived.Test.YtmjgehbpcchjpaaGreatDoorHO
import Derived.Test.YtmjgehbpcchjpaaGreatDoorHS
namespace Go.Proofs.YtmjgehbpcchjpaaGreatDoor.F
open Go Go.Proofs Go.Proofs.YtmjgehbpcchjpaaGreatDoor.E Go.Proofs.YtmjgehbpcchjpaaGreatDoor.Q
abbrev ref04_put : Nat := 116
def ref04_put_c : MFn := ⟨71,(.seq (r [o 4 (.box (.t 1)),o 5 (.box (.t 2)),o 6 (.mv (.c .nils))] [0,4,5]) (.seq (r [o 7 (.mv (.c .nils))] [0,4,5,7]) (.seq (r [o 8 (.mv (.c (.bool false)))] [0,4,5,7,8]) (.seq (.seq (r [o 9 (.mv (i 0))] [0,4,5,7,8,9]) (.block 0 (.loop (.seq (.seq (r [o 12 (.mv (.t 9)),o 13 (.mv (.t 0)),o 14 (.lenS (.t 13)),o 15 (.bin .lss (.t 12) (.t 14))] [0,4,5,7,8,9,15]) (.cond (.t 15) .skip (.exit 0))) (.seq (.block 1 (.seq (r [o 18 (.ld (some 3) (.t 4)),o 19 (.mv (.t 0)),o 20 (.mv (.t 9)),o 21 (.ixA 6 (.t 19) (.t 20)),o 22 (.fA 0 (.t 21)),o 23 (.ld (some 3) (.t 22)),o 24 (.callF 101 [(.t 18),(.t 23)]),o 10 (.mv (.t 24))] [0,4,5,7,8,9,10]) (.seq (.seq (r [o 25 (.mv (.t 8)),o 26 (.un .not (.t 25)),o 27 (.mv (.t 26)),y 28 27 (.mv (.t 10)),y 29 27 (.bin .lss (.t 28) (i 0)),o 30 (.pick (.t 27) (.t 29) (.c (.bool false)))] [0,4,5,7,8,9,10,30]) (.cond (.t 30) (.seq (r [o 31 (.mv (.t 7)),o 32 (.ld (some 3) (.t 4)),o 33 (.callF 159 [(.t 32)]),o 34 (.ld (some 3) (.t 5)),o 35 (.callF 113 []),o 36 (.callF 81 [(.t 34),(.t 35)]),o 37 (.build zP [(0,3,(.t 33)),(3,3,(.t 36))]),o 38 (.buildSl 6 1 zP [(0,(.t 37))]),o 39 (.app 6 96 (.t 31) (.t 38)),o 7 (.mv (.t 39))] [0,4,5,7,9,10]) (r [o 8 (.mv (.c (.bool true)))] [0,4,5,7,8,9,10])) .skip)) (.seq (r [o 40 (.mv (.t 0)),o 41 (.mv (.t 9)),o 42 (.ixA 6 (.t 40) (.t 41)),o 43 (.ld (some 6) (.t 42)),o 11 (.alloc zP),z (.st 6 (.t 11) (.t 43))] [0,4,5,7,8,9,10,11]) (.seq (.seq (r [o 44 (.mv (.t 8)),o 45 (.un .not (.t 44)),o 46 (.mv (.t 45)),y 47 46 (.mv (.t 10)),y 48 46 (.bin .eql (.t 47) (i 0)),o 49 (.pick (.t 46) (.t 48) (.c (.bool false)))] [0,4,5,7,8,9,11,49]) (.cond (.t 49) (.seq (r [o 50 (.fA 3 (.t 11)),o 51 (.ld (some 3) (.t 50)),o 52 (.ld (some 3) (.t 5)),o 53 (.call 81 [(.t 51),(.t 52)]),o 54 (.fA 3 (.t 11)),z (.st 3 (.t 54) (.t 53))] [0,4,5,7,9,11]) (r [o 8 (.mv (.c (.bool true)))] [0,4,5,7,8,9,11])) .skip)) (r [o 55 (.mv (.t 7)),o 56 (.ld (some 6) (.t 11)),o 57 (.buildSl 6 1 zP [(0,(.t 56))]),o 58 (.app 6 96 (.t 55) (.t 57)),o 7 (.mv (.t 58))] [0,4,5,7,8,9])))))) (r [o 16 (.mv (.t 9)),o 17 (.bin .add (.t 16) (i 1)),o 9 (.mv (.t 17))] [0,4,5,7,8,9])))))) (.seq (.seq (r [o 59 (.mv (.t 8)),o 60 (.un .not (.t 59))] [4,5,7,60]) (.cond (.t 60) (r [o 61 (.mv (.t 7)),o 62 (.ld (some 3) (.t 4)),o 63 (.callF 159 [(.t 62)]),o 64 (.ld (some 3) (.t 5)),o 65 (.callF 113 []),o 66 (.callF 81 [(.t 64),(.t 65)]),o 67 (.build zP [(0,3,(.t 63)),(3,3,(.t 66))]),o 68 (.buildSl 6 1 zP [(0,(.t 67))]),o 69 (.app 6 96 (.t 61) (.t 68)),o 7 (.mv (.t 69))] [7]) .skip)) (.seq (r [o 70 (.mv (.t 7)),o 6 (.mv (.t 70))] [6]) .ret)))))),[.t 6]⟩
theorem ref04_put_ok : cFn Tryz.prog (kps [[0,4,5],[0,4,5,7],[0,4,5,7,8],[0,4,5,7,8,9],[0,4,5,7,8,9,15],[0,4,5,7,8,9],[0,4,5,7,8,9,10],[0,4,5,7,8,9,10,30],[0,4,5,7,9,10],[0,4,5,7,8,9,10],[0,4,5,7,8,9,10,11],[0,4,5,7,8,9,11,49],[0,4,5,7,9,11],[0,4,5,7,8,9,11],[0,4,5,7,8,9],[4,5,7,60],[7],[6]]) [] 116 = some ref04_put_c := by kernel_rfl
abbrev ref04_parts : Nat := 89
def ref04_parts_c : MFn := ⟨28,(.seq (r [o 1 (.box (.t 0)),o 2 (.mv (.c .nils))] [1]) (.seq (r [o 3 (.mv (.c .nils))] [1,3]) (.seq (.seq (r [o 4 (.mv (i 0))] [1,3,4]) (.block 0 (.loop (.seq (.seq (r [o 5 (.mv (.t 4)),o 6 (.fA 0 (.t 1)),o 7 (.ld none (.t 6)),o 8 (.lenS (.t 7)),o 9 (.bin .lss (.t 5) (.t 8))] [1,3,4,9]) (.cond (.t 9) .skip (.exit 0))) (.seq (.block 1 (r [o 12 (.mv (.t 3)),o 13 (.fA 0 (.t 1)),o 14 (.ld none (.t 13)),o 15 (.mv (.t 4)),o 16 (.ixA 6 (.t 14) (.t 15)),o 17 (.fA 0 (.t 16)),o 18 (.ld (some 3) (.t 17)),o 19 (.fA 0 (.t 1)),o 20 (.ld none (.t 19)),o 21 (.mv (.t 4)),o 22 (.ixA 6 (.t 20) (.t 21)),o 23 (.fA 3 (.t 22)),o 24 (.ld (some 3) (.t 23)),o 25 (.callF 116 [(.t 12),(.t 18),(.t 24)]),o 3 (.mv (.t 25))] [1,3,4])) (r [o 10 (.mv (.t 4)),o 11 (.bin .add (.t 10) (i 1)),o 4 (.mv (.t 11))] [1,3,4])))))) (.seq (r [o 26 (.mv (.t 3)),o 27 (.call 115 [(.t 26)]),o 2 (.mv (.t 27))] [2]) .ret)))),[.t 2]⟩
theorem ref04_parts_ok : cFn Tryz.prog (kps [[1],[1,3],[1,3,4],[1,3,4,9],[1,3,4],[1,3,4],[2]]) [] 89 = some ref04_parts_c := by kernel_rfl
end Go.Proofs.YtmjgehbpcchjpaaGreatDoor.F

namespace Go.Proofs.YtmjgehbpcchjpaaGreatDoor
open Go Go.Proofs Go.Proofs.YtmjgehbpcchjpaaGreatDoor.E
set_option linter.unusedSimpArgs false
set_option linter.unusedVariables false
def f8 (l : List Part) (i : Nat) (d : Bool) (o n : Nat) : Sl := (((((Sl.empty.set 9 (.int .i64 i)).set 8 (.bool d)).set 7 (bl o n)).set 5 (.ptr 1 0 0)).set 4 (.ptr 0 0 0)).set 0 (pl l)
def qf (v : Tr) (w : Raw) (o : Nat) (G : List Part) : Sto := [(0, ⟨.own, 3, [v.cells]⟩), (1, ⟨.own, 3, [w.c]⟩)] ++ cL o 6 G.length (G.map aA)
theorem fv {S : Sl} {σ : Sto} {l G : List Part} {i o : Nat} {d : Bool} {v : Tr} {w : Raw} (hn : G ≠ []) (h1 : Sub (f8 l i d o G.length) S) (h2 : E.look σ 0 = some ⟨.own, 3, [v.cells]⟩) (h3 : E.look σ 1 = some ⟨.own, 3, [w.c]⟩) (h4 : E.look σ o = some (obL G)) : Weak [] (f8 l i d o G.length) (qf v w o G) S σ := by
 have n0 : G.length ≠ 0 := fun h => hn (List.length_eq_zero_iff.1 h)
 unfold f8 qf at *
 rw [ax n0] at *
 rw [ay n0]
 refine aJ h1 ?_ (by repeat (first | exact ac | refine ah (by simp) ?_)) ?_
 ·simp; exact ⟨h2, h3, h4⟩
 ·intro p hp r hr y hy
  simp at hp
  rcases hp with rfl | rfl | rfl
  ·simp at hr; subst hr; exact cX _ y hy
  ·simp at hr; subst hr; exact bx _ y hy
  ·obtain ⟨c, _, rfl⟩ := List.mem_map.1 hr
   exact bn c y hy _
set_option maxHeartbeats 16000000 in
theorem ref04_put {l : List Part} {v : Tr} {w : Raw} (hl : l.length ≤ 10000) (ho : ∀ p ∈ l, p.v.Ok ∧ p.w.Ok (2 ^ 31)) (hv : v.Ok) (hm : cQ v ≤ 1000000) (hw : w.Ok (2 ^ 31)) : CallD Tryz.prog F.ref04_put [pl l, .agg v.cells, w.v] (· = pl (dl v w.q l)) := by
 refine aB F.ref04_put_ok ?_
 unfold F.ref04_put_c
 simp [ag, List.filter_cons, bW]
 refine aH (fun g : List Part × Bool × Nat × Nat => (f8 l g.2.2.1 g.2.1 g.2.2.2 g.1.length, qf v w g.2.2.2 g.1))
  (fun g => g.2.2.1 ≤ l.length ∧ 1 < g.2.2.2 ∧ g.1 ++ (if g.2.1 then l.drop g.2.2.1 else dl v w.q (l.drop g.2.2.1)) = dl v w.q l ∧ (g.1 = [] → g.2.2.1 = 0 ∧ g.2.1 = false) ∧ g.1.length ≤ g.2.2.1 + g.2.1.toNat) (fun g => l.length - g.2.2.1) ([], false, 0, 2) (by simp) ?_ ?_
 ·unfold f8 qf
  simp only [List.length_nil, aF, aP]
  refine aJ ?_ (by simp) (by repeat (first | exact ac | refine ah (by simp) ?_)) (by simp; exact ⟨fun y hy => cX _ y hy, fun y hy => bx _ y hy⟩)
  repeat (first | exact af | refine aj (by simp) ?_)
 rintro ⟨G, d, i, o⟩ ⟨hi, o1, hG, hG0, hGl⟩
 dsimp only at hi o1 hG hG0 hGl
 have q0 : ¬ o = 0 := by omega
 have q1 : ¬ o = 1 := by omega
 have p0 : ¬ 0 = o := by omega
 have p1 : ¬ 1 = o := by omega
 have ed : List.drop 6 (v.cells ++ [V.bool false, .nils, .nils]) = [] := List.drop_eq_nil_of_le (by simp)
 have et3 : List.take 3 (v.cells ++ [V.bool false, .nils, .nils]) = v.cells := List.take_left' (by simp)
 have ep : ∀ (u : Tr) (r : Raw), u.cells ++ [V.bool r.neg, nat r.num, nat r.den] = aA ⟨u, r⟩ := fun _ _ => rfl
 unfold f8 qf
 by_cases h1 : i < l.length
 ·obtain ⟨okv, okw⟩ := ho _ (List.getElem_mem h1)
  have tk : List.take 6 (aA l[i]) = aA l[i] := by simp
  have ec3 : List.take 3 (aA l[i]) = l[i].v.cells := by unfold aA; exact List.take_left' (by simp)
  have ec6 : List.drop 3 (aA l[i]) = l[i].w.c := by unfold aA; exact List.drop_left' (by simp)
  have hd : l.drop i = l[i] :: l.drop (i + 1) := List.drop_eq_getElem_cons h1
  rw [hd] at hG
  by_cases g0 : G = []
  ·subst g0
   obtain ⟨i0, d0⟩ := hG0 rfl
   subst i0 d0
   simp only [List.length_nil, aF, aP, List.append_nil]
   simp [h1, ag, List.filter_cons]
   refine ak (ref03_Compare hv okv) (by simp [ba]) ?_
   by_cases c1 : bJ v l[0].v < 0
   ·have hp : dl v w.q (l[0] :: l.drop (0 + 1)) = ⟨v, ao w.q⟩ :: l[0] :: l.drop (0 + 1) := if_pos c1
    simp only [Bool.false_eq_true, if_false, hp] at hG
    have c2 : ¬ bJ v l[0].v = 0 := by omega
    simp [c1, c2, ag, List.filter_cons]
    refine ak (ref04_copied hv hm) (by simp [ba]) ?_
    simp
    refine ak ref02_Zero (by simp) ?_
    simp [bb, bW]
    refine ak (j8 (Nat.le_refl _) hw) (by simp [bq, bW]) ?_
    simp (disch := omega) [bb, Raw.v, Raw.c, ed, et3, ep, h1, tk, q0, q1, p0, p1, ag, List.filter_cons, Nat.max_eq_right, Nat.max_eq_left, if_neg, if_pos]
    rw [ap (by omega) (by omega)]
    refine ⟨([⟨v, ao w.q⟩, l[0]], true, 1, 6), ⟨h1, by dsimp only; omega, ?_, fun h => by simp at h, by first | (simp; done) | (simp; simp at hGl; omega)⟩, by dsimp only; omega, ?_⟩
    ·rw [← hG]; simp []
    ·refine fv (by simp) ?_ (by simp (disch := omega) [q0, q1, p0, p1, E.look, Raw.c, if_neg]) (by simp (disch := omega) [q0, q1, p0, p1, E.look, Raw.c, if_neg]) (by simp (disch := omega) [q0, q1, p0, p1, E.look, if_neg, obL, ep])
     unfold f8
     rw [ax (by simp)]
     repeat (first | exact af | refine aj (by simp) ?_)
   ·by_cases c2 : bJ v l[0].v = 0
    ·have hp : dl v w.q (l[0] :: l.drop (0 + 1)) = ⟨l[0].v, ao (l[0].w.q + w.q)⟩ :: l.drop (0 + 1) := by unfold dl; rw [if_neg c1, if_pos c2]
     simp only [Bool.false_eq_true, if_false, hp] at hG
     simp (disch := omega) [c1, c2, h1, tk, q0, q1, p0, p1, ec3, ec6, ag, List.filter_cons, Nat.max_eq_right, Nat.max_eq_left, if_neg, if_pos]
     refine ai (ref02_Add okw hw) (by simp [bq, bW]) ?_
     simp (disch := omega) [bb, Raw.v, Raw.c, ed, et3, ep, h1, tk, q0, q1, p0, p1, ag, List.filter_cons, Nat.max_eq_right, Nat.max_eq_left, if_neg, if_pos]
     rw [ap (by omega) (by omega)]
     refine ⟨([⟨l[0].v, ao (l[0].w.q + w.q)⟩], true, 1, 4), ⟨h1, by dsimp only; omega, ?_, fun h => by simp at h, by first | (simp; done) | (simp; simp at hGl; omega)⟩, by dsimp only; omega, ?_⟩
     ·rw [← hG]; simp []
     ·refine fv (by simp) ?_ (by simp (disch := omega) [q0, q1, p0, p1, E.look, Raw.c, if_neg]) (by simp (disch := omega) [q0, q1, p0, p1, E.look, Raw.c, if_neg]) (by simp (disch := omega) [q0, q1, p0, p1, E.look, if_neg, obL, ep])
      unfold f8
      rw [ax (by simp)]
      repeat (first | exact af | refine aj (by simp) ?_)
    ·have hp : dl v w.q (l[0] :: l.drop (0 + 1)) = l[0] :: dl v w.q (l.drop (0 + 1)) := by show (if _ then _ else if _ then _ else _) = _; rw [if_neg c1, if_neg c2]
     simp only [Bool.false_eq_true, if_false, hp] at hG
     simp (disch := omega) [c1, c2, h1, tk, q0, q1, p0, p1, ec3, ec6, ag, List.filter_cons, Nat.max_eq_right, Nat.max_eq_left, if_neg, if_pos]
     rw [ap (by omega) (by omega)]
     refine ⟨([l[0]], false, 1, 4), ⟨h1, by dsimp only; omega, ?_, fun h => by simp at h, by first | (simp; done) | (simp; simp at hGl; omega)⟩, by dsimp only; omega, ?_⟩
     ·rw [← hG]; simp []
     ·refine fv (by simp) ?_ (by simp (disch := omega) [q0, q1, p0, p1, E.look, Raw.c, if_neg]) (by simp (disch := omega) [q0, q1, p0, p1, E.look, Raw.c, if_neg]) (by simp (disch := omega) [q0, q1, p0, p1, E.look, if_neg, obL, ep])
      unfold f8
      rw [ax (by simp)]
      repeat (first | exact af | refine aj (by simp) ?_)
  ·have n0 : G.length ≠ 0 := fun h => g0 (List.length_eq_zero_iff.1 h)
   rw [ax n0, ay n0]
   simp (disch := omega) [h1, q0, q1, p0, p1, ag, List.filter_cons, Nat.max_eq_right, Nat.max_eq_left, if_neg, if_pos]
   refine ak (ref03_Compare hv okv) (by simp [ba]) ?_
   have hGl2 : G.length ≤ l.length := by cases d <;> simp at hGl <;> omega
   cases d with
   | true =>
     simp only [if_true] at hG
     simp (disch := omega) [Bool.not_true, h1, tk, q0, q1, p0, p1, ec3, ec6, ag, List.filter_cons, Nat.max_eq_right, Nat.max_eq_left, if_neg, if_pos]
     rw [ap (by omega) (by omega)]
     refine ⟨(G ++ [l[i]], true, i + 1, o + 3), ⟨h1, by dsimp only; omega, ?_, fun h => by simp at h, by first | (simp; done) | (simp; simp at hGl; omega)⟩, by dsimp only; omega, ?_⟩
     ·rw [← hG]; simp []
     ·refine fv (by simp) ?_ (by simp (disch := omega) [q0, q1, p0, p1, E.look, Raw.c, if_neg]) (by simp (disch := omega) [q0, q1, p0, p1, E.look, Raw.c, if_neg]) (by simp (disch := omega) [q0, q1, p0, p1, E.look, if_neg, obL, ep])
      unfold f8
      rw [ax (by simp)]
      repeat (first | exact af | refine aj (by simp) ?_)
   | false =>
     by_cases c1 : bJ v l[i].v < 0
     ·have hp : dl v w.q (l[i] :: l.drop (i + 1)) = ⟨v, ao w.q⟩ :: l[i] :: l.drop (i + 1) := if_pos c1
      simp only [Bool.false_eq_true, if_false, hp] at hG
      have c2 : ¬ bJ v l[i].v = 0 := by omega
      simp [c1, c2, ag, List.filter_cons]
      refine ak (ref04_copied hv hm) (by simp [ba]) ?_
      simp
      refine ak ref02_Zero (by simp) ?_
      simp [bb, bW]
      refine ak (j8 (Nat.le_refl _) hw) (by simp [bq, bW]) ?_
      simp (disch := omega) [bb, Raw.v, Raw.c, ed, et3, ep, h1, tk, q0, q1, p0, p1, ag, List.filter_cons, Nat.max_eq_right, Nat.max_eq_left, if_neg, if_pos]
      rw [ap (by omega) (by omega)]
      refine ⟨(G ++ [⟨v, ao w.q⟩, l[i]], true, i + 1, o + 5), ⟨h1, by dsimp only; omega, ?_, fun h => by simp at h, by first | (simp; done) | (simp; simp at hGl; omega)⟩, by dsimp only; omega, ?_⟩
      ·rw [← hG]; simp []
      ·refine fv (by simp) ?_ (by simp (disch := omega) [q0, q1, p0, p1, E.look, Raw.c, if_neg]) (by simp (disch := omega) [q0, q1, p0, p1, E.look, Raw.c, if_neg]) (by simp (disch := omega) [q0, q1, p0, p1, E.look, if_neg, obL, ep])
       unfold f8
       rw [ax (by simp)]
       repeat (first | exact af | refine aj (by simp) ?_)
     ·by_cases c2 : bJ v l[i].v = 0
      ·have hp : dl v w.q (l[i] :: l.drop (i + 1)) = ⟨l[i].v, ao (l[i].w.q + w.q)⟩ :: l.drop (i + 1) := by unfold dl; rw [if_neg c1, if_pos c2]
       simp only [Bool.false_eq_true, if_false, hp] at hG
       simp (disch := omega) [c1, c2, h1, tk, q0, q1, p0, p1, ec3, ec6, ag, List.filter_cons, Nat.max_eq_right, Nat.max_eq_left, if_neg, if_pos]
       refine ai (ref02_Add okw hw) (by simp [bq, bW]) ?_
       simp (disch := omega) [bb, Raw.v, Raw.c, ed, et3, ep, h1, tk, q0, q1, p0, p1, ag, List.filter_cons, Nat.max_eq_right, Nat.max_eq_left, if_neg, if_pos]
       rw [ap (by omega) (by omega)]
       refine ⟨(G ++ [⟨l[i].v, ao (l[i].w.q + w.q)⟩], true, i + 1, o + 3), ⟨h1, by dsimp only; omega, ?_, fun h => by simp at h, by first | (simp; done) | (simp; simp at hGl; omega)⟩, by dsimp only; omega, ?_⟩
       ·rw [← hG]; simp []
       ·refine fv (by simp) ?_ (by simp (disch := omega) [q0, q1, p0, p1, E.look, Raw.c, if_neg]) (by simp (disch := omega) [q0, q1, p0, p1, E.look, Raw.c, if_neg]) (by simp (disch := omega) [q0, q1, p0, p1, E.look, if_neg, obL, ep])
        unfold f8
        rw [ax (by simp)]
        repeat (first | exact af | refine aj (by simp) ?_)
      ·have hp : dl v w.q (l[i] :: l.drop (i + 1)) = l[i] :: dl v w.q (l.drop (i + 1)) := by show (if _ then _ else if _ then _ else _) = _; rw [if_neg c1, if_neg c2]
       simp only [Bool.false_eq_true, if_false, hp] at hG
       simp (disch := omega) [c1, c2, h1, tk, q0, q1, p0, p1, ec3, ec6, ag, List.filter_cons, Nat.max_eq_right, Nat.max_eq_left, if_neg, if_pos]
       rw [ap (by omega) (by omega)]
       refine ⟨(G ++ [l[i]], false, i + 1, o + 3), ⟨h1, by dsimp only; omega, ?_, fun h => by simp at h, by first | (simp; done) | (simp; simp at hGl; omega)⟩, by dsimp only; omega, ?_⟩
       ·rw [← hG]; simp []
       ·refine fv (by simp) ?_ (by simp (disch := omega) [q0, q1, p0, p1, E.look, Raw.c, if_neg]) (by simp (disch := omega) [q0, q1, p0, p1, E.look, Raw.c, if_neg]) (by simp (disch := omega) [q0, q1, p0, p1, E.look, if_neg, obL, ep])
        unfold f8
        rw [ax (by simp)]
        repeat (first | exact af | refine aj (by simp) ?_)
 ·have hil : i = l.length := by omega
  subst hil
  rw [List.drop_length] at hG
  simp only [dl] at hG
  cases d with
  | true =>
    have g0 : G ≠ [] := fun h => by have := (hG0 h).2; simp at this
    have n0 : G.length ≠ 0 := fun h => g0 (List.length_eq_zero_iff.1 h)
    simp only [if_true, List.append_nil] at hG
    rw [ax n0, ay n0]
    simp
    rw [E.toD_ref (k := 11) (st := .own) (es := 6) (l := G.map aA) (by simp [E.look, q0, q1, p0, p1]) (by simp) (by simp) (by simp) (by simp [g0]) (fun r hr => by obtain ⟨p, _, rfl⟩ := List.mem_map.1 hr; exact bG _ _ _)]
    rw [hG]
  | false =>
    simp only [Bool.false_eq_true, if_false] at hG
    rw [← hG]
    have hGl2 : G.length ≤ 10000 := by simp at hGl; omega
    by_cases g0 : G = []
    ·subst g0
     simp only [List.length_nil, aF, aP, List.append_nil]
     simp [ag, List.filter_cons]
     refine ak (ref04_copied hv hm) (by simp [ba]) ?_
     simp
     refine ak ref02_Zero (by simp) ?_
     simp [bb, bW]
     refine ak (j8 (Nat.le_refl _) hw) (by simp [bq, bW]) ?_
     simp (disch := omega) [bb, Raw.v, Raw.c, ed, et3, ep, q0, q1, p0, p1, ag, List.filter_cons, Nat.max_eq_right, Nat.max_eq_left, if_neg, if_pos]
     rw [E.toD_ref (k := 11) (st := .own) (es := 6) (l := [aA ⟨v, ao w.q⟩]) (by simp [E.look, ep]) (by simp) (by simp) (by simp) (by simp) (fun r hr => by simp at hr; subst hr; exact bG _ _ _)]
     simp
    ·have n0 : G.length ≠ 0 := fun h => g0 (List.length_eq_zero_iff.1 h)
     rw [ax n0, ay n0]
     simp (disch := omega) [q0, q1, p0, p1, ag, List.filter_cons, Nat.max_eq_right, Nat.max_eq_left, if_neg, if_pos]
     refine ak (ref04_copied hv hm) (by simp [ba]) ?_
     simp
     refine ak ref02_Zero (by simp) ?_
     simp [bb, bW]
     refine ak (j8 (Nat.le_refl _) hw) (by simp [bq, bW]) ?_
     simp (disch := omega) [bb, Raw.v, Raw.c, ed, et3, ep, q0, q1, p0, p1, ag, List.filter_cons, Nat.max_eq_right, Nat.max_eq_left, if_neg, if_pos]
     rw [E.toD_ref (k := 11) (st := .own) (es := 6) (l := (G ++ [(⟨v, ao w.q⟩ : Part)]).map aA) (by simp [E.look, ep]) (by simp) (by simp) (by simp) (by simp) (fun r hr => by obtain ⟨p, _, rfl⟩ := List.mem_map.1 hr; exact bG _ _ _)]
theorem fullP_ok {l : List Part} {k : Nat} (hk : 1 ≤ k) (h : ∀ p ∈ l, p.v.Ok ∧ p.w.Ok k) : ∀ p ∈ cj l, p.v.Ok ∧ p.w.Ok (1 + l.length * (k + 1)) := fun p hp => by
 obtain ⟨q, hq, e⟩ := mL hp
 refine ⟨e ▸ (h q hq).1, ?_⟩
 rw [rI hp]
 exact bw (gj hk (fun x hx => Raw.fits (h x hx).2 hk) _)
theorem o6 {m : Ms} {K : Nat} (hK : 1 ≤ K) (hm : m.Ok K) (hl : m.parts.length ≤ 1000) (hb : K ≤ 100000) (hc : ∀ p ∈ m.parts, cQ p.v ≤ 1000000) : CallX Tryz.prog F.ref04_parts [m.v] [] (fun v s => ∃ o, v = bl o (aL m.parts).length ∧ s = cL o 6 (aL m.parts).length ((aL m.parts).map aA)) := by
 have fb : ∀ i, (cj (m.parts.take i)).length ≤ 1000 ∧ ∀ p ∈ cj (m.parts.take i), p.v.Ok ∧ p.w.Ok (2 ^ 31) := fun i => by
  have h1 : (m.parts.take i).length ≤ 1000 := by rw [List.length_take]; omega
  refine ⟨Nat.le_trans (nW _) h1, fun p hp => ?_⟩
  obtain ⟨a, b⟩ := fullP_ok hK (fun p hp => hm.parts p (List.mem_of_mem_take hp)) p hp
  have := Nat.mul_le_mul h1 (show K + 1 ≤ 100001 by omega)
  exact ⟨a, rok b (by omega)⟩
 refine cF F.ref04_parts_ok ?_
 unfold F.ref04_parts_c
 simp [ag, List.filter_cons, bW, msC, am]
 generalize hL : m.parts = l at *
 refine aH (fun i : Nat => (((Sl.empty.set 4 (.int .i64 i)).set 3 (if i = 0 then .nils else pl (cj (l.take i)))).set 1 (.ptr 0 0 0), [(0, ⟨.own, 16, [pl l :: am m.rf m.lo m.f0 m.f1 m.f2]⟩)]))
  (fun i => i ≤ l.length) (fun i => l.length - i) 0 (by omega) ?_ ?_
 ·refine aJ ?_ (by simp [am]) (by repeat (first | exact ac | refine ah (by simp) ?_)) (by simp [am])
  repeat (first | exact af | refine aj (by simp) ?_)
 intro i hi
 by_cases h1 : i < l.length
 ·obtain ⟨okv, okw⟩ := hm.parts _ (by rw [hL]; exact List.getElem_mem h1)
  have cv := hc _ (List.getElem_mem h1)
  obtain ⟨b1, b2⟩ := fb i
  have key := ref04_put (l := cj (l.take i)) (v := l[i].v) (w := l[i].w) (by omega) b2 okv cv (rok okw (by omega))
  rw [← qX h1] at key
  have fin : ∀ (S : Sl) (σ : Sto), Sub (((Sl.empty.set 4 (.int .i64 ((i + 1 : Nat) : Int))).set 3 (if i + 1 = 0 then .nils else pl (cj (l.take (i + 1))))).set 1 (.ptr 0 0 0)) S → E.look σ 0 = some ⟨.own, 16, [pl l :: am m.rf m.lo m.f0 m.f1 m.f2]⟩ → Weak [] (((Sl.empty.set 4 (.int .i64 ((i + 1 : Nat) : Int))).set 3 (if i + 1 = 0 then .nils else pl (cj (l.take (i + 1))))).set 1 (.ptr 0 0 0)) [(0, ⟨.own, 16, [pl l :: am m.rf m.lo m.f0 m.f1 m.f2]⟩)] S σ := fun S σ s1 s2 => aJ s1 (by simpa using s2) (by repeat (first | exact ac | refine ah (by simp) ?_)) (by simp [am])
  by_cases i0 : i = 0
  ·subst i0
   simp [h1, am, ag, List.filter_cons]
   refine ak key (by simp [ba, bq, bW, cj]) ?_
   simp [ag, List.filter_cons]
   rw [ap (by omega) (by omega)]
   refine ⟨1, h1, by dsimp only; omega, fin _ _ ?_ (by simp [E.look, am])⟩
   repeat (first | exact af | refine aj (by simp) ?_)
  ·simp [h1, i0, am, ag, List.filter_cons]
   refine ak key (by simp [ba, bq, bW]) ?_
   simp [ag, List.filter_cons]
   rw [ap (by omega) (by omega)]
   refine ⟨i + 1, h1, by dsimp only; omega, fin _ _ ?_ (by simp [E.look, am])⟩
   repeat (first | exact af | refine aj (by simp) ?_)
 ·have hil : i = l.length := by omega
  subst hil
  obtain ⟨b1, b2⟩ := fb l.length
  rw [List.take_length] at b1 b2
  have hN : nzP (cj l) = aL l := rfl
  have wh := kd (l := cj l) (by omega) (fun p hp => rok (b2 p hp).2 (by omega))
  rw [hN] at wh
  simp [am]
  refine cB (wh.new (fun r hr y hy => by obtain ⟨x, _, rfl⟩ := List.mem_map.1 hr; exact bn x y hy _) ?_ ?_) ?_
  ·by_cases n0 : l = []
   ·simp [n0, cj]
   ·simp [n0]
  ·by_cases n0 : l = []
   ·simp [n0, rchs, rch, E.deep]
   ·simp [n0, rchs, rch, E.deep]
  rintro r s ⟨rfl, rfl⟩
  simp
  refine E.doneX_new (by simp) (by simp; rfl) rfl (fun h0 => ?_) (fun r hr y hy p => by obtain ⟨x, _, rfl⟩ := List.mem_map.1 hr; exact bn x y hy _)
  rw [took, if_neg h0, ab]
  simp
end Go.Proofs.YtmjgehbpcchjpaaGreatDoor
