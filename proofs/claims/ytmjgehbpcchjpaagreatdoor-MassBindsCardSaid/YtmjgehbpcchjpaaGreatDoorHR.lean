import Derived.Test.YtmjgehbpcchjpaaGreatDoorHN
namespace Go.Proofs.YtmjgehbpcchjpaaGreatDoor.F
open Go Go.Proofs Go.Proofs.YtmjgehbpcchjpaaGreatDoor.E Go.Proofs.YtmjgehbpcchjpaaGreatDoor.Q
abbrev weights_Scale : Nat := 83
def weights_Scale_c : MFn := ⟨53,(.seq (r [o 2 (.box (.t 0)),o 3 (.box (.t 1)),o 4 (.alloc zM)] [2,3,4]) (.seq (r [o 9 (.fA 1 (.t 2)),o 10 (.ld (some 3) (.t 9)),o 11 (.ld (some 3) (.t 3)),o 12 (.callF 39 [(.t 10),(.t 11)]),o 13 (.fA 4 (.t 2)),o 14 (.ld (some 3) (.t 13)),o 15 (.ld (some 3) (.t 3)),o 16 (.callF 39 [(.t 14),(.t 15)]),o 17 (.build zM [(1,3,(.t 12)),(4,3,(.t 16))]),o 5 (.alloc zM),z (.st 16 (.t 5) (.t 17))] [2,3,4,5]) (.seq (.seq (r [o 18 (.fA 0 (.t 2)),o 19 (.ld none (.t 18)),o 20 (.lenS (.t 19)),o 21 (.mv (i 0))] [2,3,4,5,19,20,21]) (.block 0 (.loop (.seq (r [o 22 (.bin .lss (.t 21) (.t 20))] [2,3,4,5,19,20,21,22]) (.seq (.cond (.t 22) .skip (.exit 0)) (.seq (.block 1 (.seq (r [o 23 (.ixA 6 (.t 19) (.t 21)),o 24 (.ld (some 6) (.t 23)),o 7 (.alloc zP),z (.st 6 (.t 7) (.t 24))] [2,3,4,5,7,19,20,21]) (r [o 25 (.fA 0 (.t 5)),o 26 (.ld none (.t 25)),o 27 (.fA 0 (.t 7)),o 28 (.ld (some 3) (.t 27)),o 29 (.fA 3 (.t 7)),o 30 (.ld (some 3) (.t 29)),o 31 (.ld (some 3) (.t 3)),o 32 (.callF 39 [(.t 30),(.t 31)]),o 33 (.build zP [(0,3,(.t 28)),(3,3,(.t 32))]),o 34 (.buildSl 6 1 zP [(0,(.t 33))]),o 35 (.app 6 96 (.t 26) (.t 34)),o 36 (.fA 0 (.t 5)),z (.st 1 (.t 36) (.t 35))] [2,3,4,5,19,20,21]))) (r [o 37 (.bin .add (.t 21) (i 1)),o 21 (.mv (.t 37))] [2,3,4,5,19,20,21]))))))) (.seq (.seq (r [o 38 (.mv (i 0))] [2,3,4,5,38]) (.block 2 (.loop (.seq (r [o 39 (.bin .lss (.t 38) (i 3))] [2,3,4,5,38,39]) (.seq (.cond (.t 39) .skip (.exit 2)) (.seq (.block 3 (.seq (r [o 40 (.mv (.t 38)),o 8 (.mv (.t 40))] [2,3,4,5,8,38]) (r [o 41 (.mv (.t 8)),o 42 (.mv (.t 8)),o 43 (.fA 7 (.t 2)),o 44 (.ixArr 3 3 (.t 43) (.t 42)),o 45 (.ld (some 3) (.t 44)),o 46 (.ld (some 3) (.t 3)),o 47 (.callF 39 [(.t 45),(.t 46)]),o 48 (.fA 7 (.t 5)),o 49 (.ixArr 3 3 (.t 48) (.t 41)),z (.st 3 (.t 49) (.t 47))] [2,3,4,5,38]))) (r [o 50 (.bin .add (.t 38) (i 1)),o 38 (.mv (.t 50))] [2,3,4,5,38]))))))) (.seq (r [o 51 (.ld (some 16) (.t 5)),o 52 (.call 128 [(.t 51)]),z (.st 16 (.t 4) (.t 52))] [4]) .ret))))),[.cell 4 (some 16)]⟩
theorem weights_Scale_ok : cFn Tryz.prog (kps [[2,3,4],[2,3,4,5],[2,3,4,5,19,20,21],[2,3,4,5,19,20,21,22],[2,3,4,5,7,19,20,21],[2,3,4,5,19,20,21],[2,3,4,5,19,20,21],[2,3,4,5,38],[2,3,4,5,38,39],[2,3,4,5,8,38],[2,3,4,5,38],[2,3,4,5,38],[4]]) [] 83 = some weights_Scale_c := by kernel_rfl
end Go.Proofs.YtmjgehbpcchjpaaGreatDoor.F

namespace Go.Proofs.YtmjgehbpcchjpaaGreatDoor
open Go Go.Proofs Go.Proofs.YtmjgehbpcchjpaaGreatDoor.E
set_option linter.unusedSimpArgs false
set_option linter.unusedVariables false
def c9 (m : Ms) (r : Rat) : Ms := ⟨dm m.parts r, ao (m.rf.q * r), ao (m.lo.q * r), ao (m.f0.q * r), ao (m.f1.q * r), ao (m.f2.q * r)⟩
theorem qr {l : List Part} {r : Rat} {i : Nat} (h : i < l.length) : List.take (i + 1) (List.map aA (dm l r)) = List.take i (List.map aA (dm l r)) ++ [aA ⟨l[i].v, ao (l[i].w.q * r)⟩] := by
 rw [List.take_succ_eq_append_getElem (by simpa [dm] using h)]; simp [dm]
theorem sn {a b : Rat} {K : Nat} (ha : Fits a K) (hb : Fits b K) (hK : 1 ≤ K) : Fits (a * b) (2 * K) := (pI ha hb hK).mono (by omega)
theorem rT {m : Ms} {w : Raw} {K : Nat} (hK : 1 ≤ K) (hm : m.Ok K) (hw : w.Ok K) : (c9 m w.q).Ok (2 * K) := by
 have fw := Raw.fits hw hK
 have g : ∀ {x : Raw}, x.Ok K → (ao (x.q * w.q)).Ok (2 * K) := fun hx => bw (sn (Raw.fits hx hK) fw hK)
 refine ⟨fun p hp => ?_, g hm.rf, g hm.lo, g hm.f0, g hm.f1, g hm.f2⟩
 obtain ⟨q, hq, rfl⟩ := List.mem_map.1 hp
 exact ⟨(hm.parts q hq).1, g (hm.parts q hq).2⟩
theorem ge (m : Ms) (r : Rat) : (c9 m r).parts.length = m.parts.length := by simp [c9, dm]
set_option maxHeartbeats 16000000 in
theorem weights_Scale {m : Ms} {w : Raw} {K : Nat} (hK : 1 ≤ K) (hm : m.Ok K) (hw : w.Ok K) (hl : m.parts.length ≤ 1000000) (hb : 1 + m.parts.length * (2 * K + 1) + 2 * K ≤ 2 ^ 31) : CallD Tryz.prog F.weights_Scale [m.v, w.v] (· = (aI (c9 m w.q)).v) := by
 have K31 : K ≤ 2 ^ 31 := by omega
 have come := dj (K := 2 * K) (by omega) (by omega) (rT hK hm hw) (by rw [ge]; omega) (by rw [ge]; exact hl)
 refine aB F.weights_Scale_ok ?_
 unfold F.weights_Scale_c
 simp [ag, List.filter_cons, msC, am, Raw.v]
 refine ak (ratio_Mul (rok hm.rf K31) (rok hw K31)) (by simp [Raw.v]) ?_
 simp [bb, Raw.v]
 refine ak (ratio_Mul (rok hm.lo K31) (rok hw K31)) (by simp [Raw.v]) ?_
 simp [bb, Raw.v, ag, List.filter_cons]
 have ho := hm.parts
 generalize hL : m.parts = l at hl ho hb
 have lS : (dm l w.q).length = l.length := by simp [dm]
 have inS : ∀ n, ∀ r ∈ List.take n (List.map aA (dm l w.q)), ∀ y ∈ r, ∀ p : Nat → Bool, y.within p = true := fun n r hr y hy p => by
  obtain ⟨x, _, rfl⟩ := List.mem_map.1 (List.mem_of_mem_take hr)
  exact bn x y hy p
 let A := ao (m.rf.q * w.q)
 let B := ao (m.lo.q * w.q)
 refine aH (fun g : Nat × Nat => (((((((Sl.empty.set 21 (.int .i64 g.2)).set 20 (.int .i64 l.length)).set 19 (pl l)).set 5 (.ptr 3 0 0)).set 4 (.ptr 2 0 0)).set 3 (.ptr 1 0 0)).set 2 (.ptr 0 0 0),
  [(0, ⟨.own, 16, [pl l :: am m.rf m.lo m.f0 m.f1 m.f2]⟩), (1, ⟨.own, 3, [w.c]⟩), (2, ⟨.own, 16, [az]⟩), (3, ⟨.own, 16, [bl g.1 g.2 :: aQ A B A A A 0]⟩)] ++ cL g.1 6 g.2 ((List.map aA (dm l w.q)).take g.2)))
  (fun g => g.2 ≤ l.length ∧ 3 < g.1) (fun g => l.length - g.2) (4, 0) (by simp) ?_ ?_
 ·refine aJ ?_ (by simp [aF, aP, am, aQ, az, Raw.c, A, B]) (by repeat (first | exact ac | refine ah (by simp [aF]) ?_)) (by simp [aF, aP, am, aQ, az, Raw.c])
  repeat (first | exact af | refine aj (by simp [hL]) ?_)
 rintro ⟨o, i⟩ ⟨hi, o3⟩
 dsimp only at hi o3
 have q0 : ¬ o = 0 := by omega
 have q1 : ¬ o = 1 := by omega
 have q2 : ¬ o = 2 := by omega
 have q3 : ¬ o = 3 := by omega
 have p0 : ¬ 0 = o := by omega
 have p1 : ¬ 1 = o := by omega
 have p2 : ¬ 2 = o := by omega
 have p3 : ¬ 3 = o := by omega
 by_cases h1 : i < l.length
 ·obtain ⟨okv, okw⟩ := ho _ (List.getElem_mem h1)
  have tk : List.take 6 (aA l[i]) = aA l[i] := by simp
  have e1 := qr (r := w.q) h1
  have ed : List.drop 6 (l[i].v.cells ++ [V.bool false, V.nils, V.nils]) = [] := List.drop_eq_nil_of_le (by simp)
  have et3 : List.take 3 (l[i].v.cells ++ [V.bool false, V.nils, V.nils]) = l[i].v.cells := List.take_left' (by simp)
  have ep : l[i].v.cells ++ [V.bool (ao (l[i].w.q * w.q)).neg, nat (ao (l[i].w.q * w.q)).num, nat (ao (l[i].w.q * w.q)).den] = aA ⟨l[i].v, ao (l[i].w.q * w.q)⟩ := rfl
  by_cases hi0 : i = 0
  ·subst hi0
   simp at e1
   simp [h1, tk, aQ, aF, aP, ag, List.filter_cons]
   refine ak (ratio_Mul (rok okw K31) (rok hw K31)) (by simp [bq, bW]) ?_
   simp (disch := omega) [bb, Raw.v, ed, et3, ep, ag, List.filter_cons, Nat.max_eq_right, Nat.max_eq_left, if_neg, if_pos]
   rw [ap (by omega) (by omega)]
   refine ⟨(6, 1), ⟨h1, by dsimp only; omega⟩, by dsimp only; omega, ?_⟩
   refine aJ ?_ ?_ (by repeat (first | exact ac | refine ah (by simp [ay]) ?_)) ?_
   ·repeat (first | exact af | refine aj (by simp) ?_)
   ·simp (disch := omega) [ay, ax, e1, aQ, am, az, Raw.c, if_neg]
   ·simp only [ay (show 1 ≠ 0 by omega), ax (show 1 ≠ 0 by omega)]
    intro p hp r hr y hy
    simp only [List.cons_append, List.nil_append, List.mem_cons, List.not_mem_nil, or_false] at hp
    rcases hp with rfl | rfl | rfl | rfl | rfl
    ·simp only [List.mem_singleton] at hr; subst hr
     rcases List.mem_cons.1 hy with rfl | hy
     ·simp [V.within]
     ·exact bL _ _ _ _ _ y hy _
    ·simp only [List.mem_singleton] at hr; subst hr; exact bx _ y hy
    ·simp only [List.mem_singleton] at hr; subst hr; exact bC y hy _
    ·simp only [List.mem_singleton] at hr; subst hr
     rcases List.mem_cons.1 hy with rfl | hy
     ·simp [V.within]
     ·exact cH A B A A A 0 y (List.mem_cons_of_mem _ (by simpa [aQ] using hy)) _
    ·exact inS _ r hr y hy _
  ·simp (disch := omega) [h1, tk, lS, Nat.min_eq_left, aQ, ax hi0, ay hi0, q0, q1, q2, q3, p0, p1, p2, p3, ag, List.filter_cons, Nat.max_eq_right, Nat.max_eq_left, if_neg, if_pos]
   refine ak (ratio_Mul (rok okw K31) (rok hw K31)) (by simp [bq, bW]) ?_
   simp (disch := omega) [bb, Raw.v, lS, Nat.min_eq_left, ed, et3, ep, q0, q1, q2, q3, p0, p1, p2, p3, ag, List.filter_cons, Nat.max_eq_right, Nat.max_eq_left, if_neg, if_pos]
   rw [ap (by omega) (by omega)]
   refine ⟨(o + 3, i + 1), ⟨h1, by dsimp only; omega⟩, by dsimp only; omega, ?_⟩
   refine aJ ?_ ?_ (by repeat (first | exact ac | refine ah (by simp [ay]) ?_)) ?_
   ·repeat (first | exact af | refine aj (by simp) ?_)
   ·simp (config := { maxSteps := 2000000 }) (disch := omega) [ay, ax, e1, aQ, am, az, Raw.c, q0, q1, q2, q3, if_neg]
   ·simp only [ay (show i + 1 ≠ 0 by omega), ax (show i + 1 ≠ 0 by omega)]
    intro p hp r hr y hy
    simp only [List.cons_append, List.nil_append, List.mem_cons, List.not_mem_nil, or_false] at hp
    rcases hp with rfl | rfl | rfl | rfl | rfl
    ·simp only [List.mem_singleton] at hr; subst hr
     rcases List.mem_cons.1 hy with rfl | hy
     ·simp [V.within]
     ·exact bL _ _ _ _ _ y hy _
    ·simp only [List.mem_singleton] at hr; subst hr; exact bx _ y hy
    ·simp only [List.mem_singleton] at hr; subst hr; exact bC y hy _
    ·simp only [List.mem_singleton] at hr; subst hr
     rcases List.mem_cons.1 hy with rfl | hy
     ·simp [V.within]
     ·exact cH A B A A A 0 y (List.mem_cons_of_mem _ (by simpa [aQ] using hy)) _
    ·exact inS _ r hr y hy _
 ·have hil : i = l.length := by omega
  subst hil
  simp [h1, ag, List.filter_cons]
  have et : List.take l.length (List.map aA (dm l w.q)) = List.map aA (dm l w.q) := List.take_of_length_le (by simp [lS])
  rw [et]
  let C := ao (m.f0.q * w.q)
  let D := ao (m.f1.q * w.q)
  let G := ao (m.f2.q * w.q)
  refine aH (fun g : Nat => (((((Sl.empty.set 38 (.int .i64 g)).set 5 (.ptr 3 0 0)).set 4 (.ptr 2 0 0)).set 3 (.ptr 1 0 0)).set 2 (.ptr 0 0 0),
   [(0, ⟨.own, 16, [pl l :: am m.rf m.lo m.f0 m.f1 m.f2]⟩), (1, ⟨.own, 3, [w.c]⟩), (2, ⟨.own, 16, [az]⟩), (3, ⟨.own, 16, [bl o l.length :: aQ A B C D G g]⟩)] ++ cL o 6 l.length (List.map aA (dm l w.q))))
   (fun g => g ≤ 3) (fun g => 3 - g) 0 (by omega) ?_ ?_
  ·by_cases n0 : l.length = 0
   ·simp only [n0, aF, aP]
    refine aJ ?_ (by simp [aQ, am, az, Raw.c, A, B, C, D, G]) (by repeat (first | exact ac | refine ah (by simp) ?_)) (by simp [aQ, am, az, Raw.c, V.within])
    repeat (first | exact af | refine aj (by simp) ?_)
   ·simp only [ax n0, ay n0]
    refine aJ ?_ (by simp (config := { maxSteps := 2000000 }) (disch := omega) [aQ, am, az, Raw.c, q0, q1, q2, q3, p0, p1, p2, p3, if_neg, List.filter_cons, A, B, C, D, G]) (by repeat (first | exact ac | refine ah (by simp) ?_)) ?_
    ·repeat (first | exact af | refine aj (by simp) ?_)
    ·intro p hp r hr y hy
     simp only [List.cons_append, List.nil_append, List.mem_cons, List.not_mem_nil, or_false] at hp
     rcases hp with rfl | rfl | rfl | rfl | rfl
     ·simp only [List.mem_singleton] at hr; subst hr
      rcases List.mem_cons.1 hy with rfl | hy
      ·simp [V.within]
      ·exact bL _ _ _ _ _ y (by simpa [am] using hy) _
     ·simp only [List.mem_singleton] at hr; subst hr; exact bx _ y hy
     ·simp only [List.mem_singleton] at hr; subst hr; exact bC y hy _
     ·simp only [List.mem_singleton] at hr; subst hr
      rcases List.mem_cons.1 hy with rfl | hy
      ·simp [V.within]
      ·exact cH A B C D G 0 y (List.mem_cons_of_mem _ (by simpa [aQ] using hy)) _
     ·exact inS l.length r (by rw [et]; exact hr) y hy _
  intro g hg
  by_cases c : g < 3
  ·have hg3 : g = 0 ∨ g = 1 ∨ g = 2 := by omega
   rcases hg3 with e | e | e
   ·subst e
    simp (disch := omega) [aQ, am, ag, List.filter_cons, if_neg]
    refine ak (ratio_Mul (rok hm.f0 K31) (rok hw K31)) (by simp [bq, bW, Raw.c]) ?_
    simp (disch := omega) [bb, Raw.v, ag, List.filter_cons, if_neg]
    rw [ap (by omega) (by omega)]
    refine ⟨1, by omega, by dsimp only; omega, ?_⟩
    by_cases n0 : l.length = 0
    ·simp only [n0, aF, aP]
     refine aJ ?_ (by simp [aQ, am, az, Raw.c, A, B, C, D, G]) (by repeat (first | exact ac | refine ah (by simp) ?_)) (by simp [aQ, am, az, Raw.c, V.within])
     repeat (first | exact af | refine aj (by simp) ?_)
    ·simp only [ax n0, ay n0]
     refine aJ ?_ (by simp (config := { maxSteps := 2000000 }) (disch := omega) [aQ, am, az, Raw.c, q0, q1, q2, q3, p0, p1, p2, p3, if_neg, List.filter_cons, A, B, C, D, G]) (by repeat (first | exact ac | refine ah (by simp) ?_)) ?_
     ·repeat (first | exact af | refine aj (by simp) ?_)
     ·intro p hp r hr y hy
      simp only [List.cons_append, List.nil_append, List.mem_cons, List.not_mem_nil, or_false] at hp
      rcases hp with rfl | rfl | rfl | rfl | rfl
      ·simp only [List.mem_singleton] at hr; subst hr
       rcases List.mem_cons.1 hy with rfl | hy
       ·simp [V.within]
       ·exact bL _ _ _ _ _ y (by simpa [am] using hy) _
      ·simp only [List.mem_singleton] at hr; subst hr; exact bx _ y hy
      ·simp only [List.mem_singleton] at hr; subst hr; exact bC y hy _
      ·simp only [List.mem_singleton] at hr; subst hr
       rcases List.mem_cons.1 hy with rfl | hy
       ·simp [V.within]
       ·exact cH A B C D G 1 y (List.mem_cons_of_mem _ (by simpa [aQ] using hy)) _
      ·exact inS l.length r (by rw [et]; exact hr) y hy _
   ·subst e
    simp (disch := omega) [aQ, am, ag, List.filter_cons, if_neg]
    refine ak (ratio_Mul (rok hm.f1 K31) (rok hw K31)) (by simp [bq, bW, Raw.c]) ?_
    simp (disch := omega) [bb, Raw.v, ag, List.filter_cons, if_neg]
    rw [ap (by omega) (by omega)]
    refine ⟨2, by omega, by dsimp only; omega, ?_⟩
    by_cases n0 : l.length = 0
    ·simp only [n0, aF, aP]
     refine aJ ?_ (by simp [aQ, am, az, Raw.c, A, B, C, D, G]) (by repeat (first | exact ac | refine ah (by simp) ?_)) (by simp [aQ, am, az, Raw.c, V.within])
     repeat (first | exact af | refine aj (by simp) ?_)
    ·simp only [ax n0, ay n0]
     refine aJ ?_ (by simp (config := { maxSteps := 2000000 }) (disch := omega) [aQ, am, az, Raw.c, q0, q1, q2, q3, p0, p1, p2, p3, if_neg, List.filter_cons, A, B, C, D, G]) (by repeat (first | exact ac | refine ah (by simp) ?_)) ?_
     ·repeat (first | exact af | refine aj (by simp) ?_)
     ·intro p hp r hr y hy
      simp only [List.cons_append, List.nil_append, List.mem_cons, List.not_mem_nil, or_false] at hp
      rcases hp with rfl | rfl | rfl | rfl | rfl
      ·simp only [List.mem_singleton] at hr; subst hr
       rcases List.mem_cons.1 hy with rfl | hy
       ·simp [V.within]
       ·exact bL _ _ _ _ _ y (by simpa [am] using hy) _
      ·simp only [List.mem_singleton] at hr; subst hr; exact bx _ y hy
      ·simp only [List.mem_singleton] at hr; subst hr; exact bC y hy _
      ·simp only [List.mem_singleton] at hr; subst hr
       rcases List.mem_cons.1 hy with rfl | hy
       ·simp [V.within]
       ·exact cH A B C D G 2 y (List.mem_cons_of_mem _ (by simpa [aQ] using hy)) _
      ·exact inS l.length r (by rw [et]; exact hr) y hy _
   ·subst e
    simp (disch := omega) [aQ, am, ag, List.filter_cons, if_neg]
    refine ak (ratio_Mul (rok hm.f2 K31) (rok hw K31)) (by simp [bq, bW, Raw.c]) ?_
    simp (disch := omega) [bb, Raw.v, ag, List.filter_cons, if_neg]
    rw [ap (by omega) (by omega)]
    refine ⟨3, by omega, by dsimp only; omega, ?_⟩
    by_cases n0 : l.length = 0
    ·simp only [n0, aF, aP]
     refine aJ ?_ (by simp [aQ, am, az, Raw.c, A, B, C, D, G]) (by repeat (first | exact ac | refine ah (by simp) ?_)) (by simp [aQ, am, az, Raw.c, V.within])
     repeat (first | exact af | refine aj (by simp) ?_)
    ·simp only [ax n0, ay n0]
     refine aJ ?_ (by simp (config := { maxSteps := 2000000 }) (disch := omega) [aQ, am, az, Raw.c, q0, q1, q2, q3, p0, p1, p2, p3, if_neg, List.filter_cons, A, B, C, D, G]) (by repeat (first | exact ac | refine ah (by simp) ?_)) ?_
     ·repeat (first | exact af | refine aj (by simp) ?_)
     ·intro p hp r hr y hy
      simp only [List.cons_append, List.nil_append, List.mem_cons, List.not_mem_nil, or_false] at hp
      rcases hp with rfl | rfl | rfl | rfl | rfl
      ·simp only [List.mem_singleton] at hr; subst hr
       rcases List.mem_cons.1 hy with rfl | hy
       ·simp [V.within]
       ·exact bL _ _ _ _ _ y (by simpa [am] using hy) _
      ·simp only [List.mem_singleton] at hr; subst hr; exact bx _ y hy
      ·simp only [List.mem_singleton] at hr; subst hr; exact bC y hy _
      ·simp only [List.mem_singleton] at hr; subst hr
       rcases List.mem_cons.1 hy with rfl | hy
       ·simp [V.within]
       ·exact cH A B C D G 3 y (List.mem_cons_of_mem _ (by simpa [aQ] using hy)) _
      ·exact inS l.length r (by rw [et]; exact hr) y hy _
  have hg3 : g = 3 := by omega
  subst hg3
  simp [aQ, ag, List.filter_cons]
  refine ai come (by
   simp [c9, msC, am, hL]
   rw [cI (k := 10) (st := .own) (es := 6) (l := List.map aA (dm l w.q)) (fun h => by simp [ay h, E.look, p0, p1, p2, p3]) (by simp) (by simp) (by simp [lS]) (fun r hr => by obtain ⟨x, _, rfl⟩ := List.mem_map.1 hr; exact bG _ _ _)]
   rfl) ?_
  by_cases n0 : l.length = 0
  ·simp [n0, aF, aP, az, ag, List.filter_cons, msC, am]
  ·have h4 : ∀ σ : Sto, aM σ o = some ⟨.own, 6, List.map aA (dm l w.q)⟩ → rch σ 11 (.ref o 0 l.length) = [o] := fun σ h => fi h (by simp [lS]) fun r hr => by
    obtain ⟨x, _, rfl⟩ := List.mem_map.1 hr
    exact f9 _ _ _
   simp [ax n0, ay n0, h4, aM, rchs, E.deep, E.look, frz, p0, p1, p2, p3, q0, q1, q2, q3, az, ag, List.filter_cons, msC, am]
theorem sclM_cnt {m : Ms} {r : Rat} {B : Nat} (h : ∀ p ∈ m.parts, cQ p.v ≤ B) : ∀ p ∈ (c9 m r).parts, cQ p.v ≤ B := fun p hp => by
 obtain ⟨q, hq, rfl⟩ := List.mem_map.1 hp
 exact h q hq
end Go.Proofs.YtmjgehbpcchjpaaGreatDoor
