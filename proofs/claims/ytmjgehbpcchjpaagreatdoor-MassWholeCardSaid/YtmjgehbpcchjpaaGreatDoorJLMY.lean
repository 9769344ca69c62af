/- MassWhole, over data. -/
import Derived.Test.YtmjgehbpcchjpaaGreatDoorIE
namespace Go.Proofs.YtmjgehbpcchjpaaGreatDoor.F
open Go Go.Proofs Go.Proofs.YtmjgehbpcchjpaaGreatDoor.E Go.Proofs.YtmjgehbpcchjpaaGreatDoor.Q
abbrev law04_MassWhole : Nat := 12
def law04_MassWhole_c : MFn := ⟨94,(.seq (r [o 3 (.box (.t 0)),o 6 (.mv (.c (.bool false)))] [1,2,3]) (.seq (.seq (r [o 14 (.mv (.t 1)),o 15 (.lenS (.t 14)),o 16 (.bin .eql (.t 15) (i 0)),o 17 (.mv (.t 16)),n 18 17 (.mv (.t 1)),n 19 17 (.lenS (.t 18)),n 20 17 (.bin .gtr (.t 19) (i 8)),o 21 (.pick (.t 17) (.c (.bool true)) (.t 20)),o 22 (.mv (.t 21)),n 23 22 (.mv (.t 2)),n 24 22 (.lenS (.t 23)),n 25 22 (.bin .gtr (.t 24) (i 8)),o 26 (.pick (.t 22) (.c (.bool true)) (.t 25)),o 27 (.mv (.t 26)),n 28 27 (.ld (some 16) (.t 3)),n 29 27 (.buildSl 16 1 zM [(0,(.t 28))]),n 30 27 (.call 14 [(.t 29)]),n 31 27 (.un .not (.t 30)),o 32 (.pick (.t 27) (.c (.bool true)) (.t 31)),o 33 (.mv (.t 32)),n 34 33 (.mv (.t 1)),n 35 33 (.call 14 [(.t 34)]),n 36 33 (.un .not (.t 35)),o 37 (.pick (.t 33) (.c (.bool true)) (.t 36))] [1,2,3,37]) (.cond (.t 37) (.seq (r [o 38 (.call 16 []),o 6 (.mv (.t 38))] [6]) .ret) .skip)) (.seq (r [o 7 (.alloc [.nils])] [1,2,3,7]) (.seq (.seq (r [o 8 (.mv (i 0))] [1,2,3,7,8]) (.block 0 (.loop (.seq (.seq (r [o 39 (.mv (.t 8)),o 40 (.mv (.t 1)),o 41 (.lenS (.t 40)),o 42 (.bin .lss (.t 39) (.t 41))] [1,2,3,7,8,42]) (.cond (.t 42) .skip (.exit 0))) (.seq (.block 1 (.seq (r [o 46 (.callF 48 []),o 47 (.mv (.t 1)),o 48 (.mv (.t 8)),o 49 (.ixA 16 (.t 47) (.t 48)),o 50 (.ld (some 16) (.t 49)),o 51 (.callF 42 [(.t 50)]),o 52 (.callF 43 [(.t 46),(.t 51)]),o 45 (.mv (.t 52)),o 53 (.ext (.t 45) 0),o 54 (.ext (.t 45) 1),o 9 (.alloc zR),z (.st 3 (.t 9) (.t 53)),o 10 (.mv (.t 54))] [1,2,3,7,8,9,10]) (.seq (.seq (r [o 55 (.mv (.t 10)),o 56 (.bin .neq (.t 55) (i 0))] [1,2,3,7,8,9,56]) (.cond (.t 56) (.seq (r [o 57 (.call 16 []),o 6 (.mv (.t 57))] [6]) .ret) .skip)) (r [o 58 (.ld none (.t 7)),o 59 (.mv (.t 1)),o 60 (.mv (.t 8)),o 61 (.ixA 16 (.t 59) (.t 60)),o 62 (.ld (some 16) (.t 61)),o 63 (.ld (some 3) (.t 9)),o 64 (.callF 22 [(.t 62),(.t 63)]),o 65 (.buildSl 16 1 zM [(0,(.t 64))]),o 66 (.app 16 304 (.t 58) (.t 65)),z (.st 1 (.t 7) (.t 66))] [1,2,3,7,8])))) (r [o 43 (.mv (.t 8)),o 44 (.bin .add (.t 43) (i 1)),o 8 (.mv (.t 44))] [1,2,3,7,8])))))) (.seq (r [o 67 (.ld (some 16) (.t 3)),o 68 (.mkF 67 [(.t 7)]),o 69 (.call 57 [(.t 67),(.t 68)]),o 11 (.alloc zM),z (.st 16 (.t 11) (.t 69))] [2,3,7,11]) (.seq (r [o 71 (.ld none (.t 7)),o 72 (.mv (.t 2)),o 73 (.call 17 [(.t 71),(.t 72)]),o 70 (.mv (.t 73)),o 74 (.ext (.t 70) 0),o 75 (.ext (.t 70) 1),o 12 (.alloc zM),z (.st 16 (.t 12) (.t 74)),o 13 (.mv (.t 75))] [3,11,12,13]) (.seq (r [o 76 (.ld (some 16) (.t 11)),o 77 (.callF 42 [(.t 76)]),o 78 (.ld (some 16) (.t 3)),o 79 (.callF 42 [(.t 78)]),o 80 (.callF 41 [(.t 77),(.t 79)]),o 81 (.mv (.t 80)),y 82 81 (.mv (.t 13)),y 83 81 (.bin .neq (.t 82) (i 0)),y 84 81 (.mv (.t 83)),n 85 84 (.ld (some 16) (.t 12)),n 86 84 (.callF 42 [(.t 85)]),n 87 84 (.callF 48 []),n 88 84 (.callF 41 [(.t 86),(.t 87)]),y 89 81 (.pick (.t 84) (.c (.bool true)) (.t 88)),o 90 (.pick (.t 81) (.t 89) (.c (.bool false))),o 91 (.mv (.t 90)),y 92 91 (.callF 16 []),o 93 (.pick (.t 91) (.t 92) (.c (.bool false))),o 6 (.mv (.t 93))] [6]) .ret))))))),[.t 6]⟩
theorem law04_MassWhole_ok : cFn Tryz.prog (kps [[1,2,3],[1,2,3,37],[6],[1,2,3,7],[1,2,3,7,8],[1,2,3,7,8,42],[1,2,3,7,8],[1,2,3,7,8,9,10],[1,2,3,7,8,9,56],[6],[1,2,3,7,8],[2,3,7,11],[3,11,12,13],[6]]) [] 12 = some law04_MassWhole_c := by kernel_rfl
end Go.Proofs.YtmjgehbpcchjpaaGreatDoor.F

namespace Go.Proofs.YtmjgehbpcchjpaaGreatDoor
open Go Go.Proofs Go.Proofs.YtmjgehbpcchjpaaGreatDoor.E
set_option linter.unusedSimpArgs false
set_option linter.unusedVariables false
theorem toP_refM {σ : Sto} {o n k es : Nat} {st : St} {l : List (List V)} (h : getOb σ o = some ⟨st, es, l⟩) (he : es ≠ 0) (hl : l.length = n) (hd : ∀ r ∈ l, mapO (toP σ k) r = some r) : toP σ (k + 1) (.ref o 0 n) = some (.dat l) := by
 show (match getOb σ o with | some x => if 0 + n ≤ x.cells.length ∧ x.es ≠ 0 then (mapO (mapO (toP σ k)) ((x.cells.drop 0).take n)).map V.dat else none | none => none) = _
 rw [h]
 subst hl
 simp only [Nat.zero_add, Nat.le_refl, true_and, List.drop_zero, List.take_length, if_pos he]
 have : mapO (mapO (toP σ k)) l = some l := by
  clear h
  induction l with
  | nil => rfl
  | cons a l ih =>
    have h1 := hd a (by simp)
    have h2 := ih fun r hr => hd r (by simp [hr])
    simp only [mapO, h1, h2]
 rw [this]; rfl
theorem rchP_refM {σ : Sto} {o n k es : Nat} {st : St} {l : List (List V)} (h : getOb σ o = some ⟨st, es, l⟩) (hl : l.length = n) (hr : ∀ r ∈ l, r.flatMap (rchP σ k) = []) : rchP σ (k + 1) (.ref o 0 n) = [o] := by
 show (match getOb σ o with | some x => o :: ((x.cells.drop 0).take n).flatMap (fun r => r.flatMap (rchP σ k)) | none => []) = [o]
 rw [h]
 subst hl
 have e : l.flatMap (fun r => r.flatMap (rchP σ k)) = [] := List.flatMap_eq_nil_iff.2 hr
 simp only [List.drop_zero, List.take_length, e]
theorem oddsOk_spec {ms : List Ms} {odds : List Int} (h : oddsOk ms odds = true) : ms.length = odds.length ∧ odds ≠ [] ∧ ∀ x ∈ odds, 1 ≤ x ∧ x ≤ 1000 := by
 unfold oddsOk at h
 simp at h
 exact ⟨h.1.1, h.1.2, h.2⟩
set_option maxHeartbeats 16000000 in
theorem massWhole_law {l0 : List V} {l1 l2 : List (List V)} (h0 : ∃ n, Typed Tryz.prog n T.mass l0) (h1 : ∃ n, Typed Tryz.prog n T.masses [.dat l1]) (h2 : ∃ n, Typed Tryz.prog n T.ints [.dat l2]) : CallD Tryz.prog F.law04_MassWhole [.agg l0, .dat l1, .dat l2] (· = .bool true) := by
 obtain ⟨_, h0⟩ := h0
 obtain ⟨m, rfl, hm, lm⟩ := read_mass h0
 obtain ⟨l, rfl, ll, hl⟩ := read_masses h1
 obtain ⟨os, eo, lo, ho⟩ := read_ilV h2
 have eo' : l2 = os.map fun x => [V.int .i64 x] := by injection eo
 subst eo'
 clear h0 h1 h2 eo
 simp only [List.length_map] at lo
 refine callD_by F.law04_MassWhole_ok ?_
 unfold F.law04_MassWhole_c
 have e16 : ∀ m : Ms, List.take 16 (msC m) = msC m := fun m => by simp [msC, tailC]
 have l16 : ∀ m : Ms, (msC m).length = 16 := fun m => by simp [msC, tailC]
 have d16 : ∀ m : Ms, List.drop 16 (msC m) = [] := fun m => by simp [msC, tailC]
 have rm : ∀ (m : Ms) (σ : Sto) (n : Nat), (msC m).flatMap (rch σ n) = [] := fun m => rch_msC
 by_cases c1 : l = []
 ·subst c1
  simp [setOb, List.filter_cons, e16, l16]
  refine callK_of law04_awake (by simp) ?_
  simp
 by_cases c3 : (8 : Int) < (l.length : Int)
 ·simp [c1, c3, setOb, List.filter_cons, e16, l16]
  refine callK_of law04_awake (by simp) ?_
  simp
 by_cases c4 : (8 : Int) < (os.length : Int)
 ·simp [c1, c3, c4, setOb, List.filter_cons, e16, l16]
  refine callK_of law04_awake (by simp) ?_
  simp
 simp [c1, c3, c4, setOb, List.filter_cons, e16, l16]
 have few1 := law04_Few (l := [m]) (by simp) (by simp; exact ⟨hm, lm⟩)
 simp at few1
 refine callK_of few1 (by
  simp
  rw [toD_refM (k := 11) (es := 16) (st := .own) (l := [msC m]) (by simp [getOb, E.look]) (by simp) (by simp) (by simp; exact toD_msC _ _ _)]) ?_
 cases c5 : fewM m with
 | false =>
   simp [setOb, List.filter_cons]
   refine callK_of law04_awake (by simp) ?_
   simp
 | true =>
 simp [setOb, List.filter_cons]
 refine callK_of (law04_Few (l := l) (by omega) hl) (by simp) ?_
 cases c6 : l.all fewM with
 | false =>
   simp [setOb, List.filter_cons]
   refine callK_of law04_awake (by simp) ?_
   simp
 | true =>
 simp [setOb, List.filter_cons, e16, l16]
 have sm := few_sml hm c5
 have sl : ∀ x ∈ l, Sml x 6 40 := fun x hx => few_sml (hl x hx).1 (List.all_eq_true.1 c6 x hx)
 have hin : ∀ n, ∀ r ∈ List.take n (l.map fun x => msC (unitM x)), ∀ y ∈ r, ∀ p : Nat → Bool, y.within p = true := fun n r hr y hy p => by
  obtain ⟨x, _, rfl⟩ := List.mem_map.1 (List.mem_of_mem_take hr)
  exact msC_in _ y hy p
 refine wm_loop (fun g : Nat × Nat => (((((Sl.empty.set 8 (.int .i64 g.2)).set 7 (.ptr 2 0 0)).set 3 (.ptr 0 0 0)).set 2 (ilV os)).set 1 (.dat (l.map msC)),
  [(0, ⟨.own, 16, [msC m]⟩), (2, ⟨.own, 1, [[grown g.1 g.2]]⟩)] ++ grownS g.1 16 g.2 ((l.map fun x => msC (unitM x)).take g.2)))
  (fun g => g.2 ≤ l.length ∧ 2 < g.1 ∧ ∀ x ∈ l.take g.2, totQ x ≠ 0) (fun g => l.length - g.2) (3, 0) (by simp) ?_ ?_
 ·unfold ilV
  refine weak_obs ?_ (by simp [grown_zero, grownS_zero]) (by repeat (first | exact sin_empty | refine sin_set (by simp) ?_)) (by simp [grown_zero, grownS_zero]; exact fun y hy => msC_in m y hy _)
  repeat (first | exact sub_empty | refine sub_set (by simp) ?_)
 rintro ⟨q, i⟩ ⟨hi, q2, ht⟩
 dsimp only at hi q2 ht
 have q0' : ¬ q = 0 := by omega
 have q2' : ¬ q = 2 := by omega
 have p0' : ¬ 0 = q := by omega
 have p2' : ¬ 2 = q := by omega
 have t3 : ∀ x : Raw, List.take 3 x.c = x.c := fun x => by simp [Raw.c]
 by_cases h1 : i < l.length
 ·have sx := sl _ (List.getElem_mem h1)
  have fT := totQ_fits sx (by omega)
  have tot := sx.tot (by omega) (by omega) (by omega)
  have dv := ratio_Div (x := rawOf 1) (y := rawOf (totQ l[i])) (rawOf_ok (fits_one.mono (by omega))) (rawOf_ok (fT.mono (by omega)))
  rw [rawOf_q, rawOf_q] at dv
  have e1 : List.take (i + 1) (l.map fun x => msC (unitM x)) = List.take i (l.map fun x => msC (unitM x)) ++ [msC (unitM l[i])] := by
   rw [List.take_succ_eq_append_getElem (by simpa using h1)]; simp
  by_cases z0 : totQ l[i] = 0
  ·rw [z0] at dv
   have ed : divR 1 0 = .tup [.agg [.bool false, .dat [], .dat []], .int .i64 31] := if_pos rfl
   rw [ed] at dv
   by_cases i0 : i = 0
   ·subst i0
    simp [h1, l16, e16, grown_zero, grownS_zero, setOb, List.filter_cons]
    refine callFK_of ratio_One (by simp) ?_
    simp [ratV, raw_v, h1, l16, e16]
    refine callFK_of tot (by simp [toD_msC]) ?_
    simp [z0, rm, setOb, List.filter_cons]
    refine callFK_of dv (by simp [toD_rawc, raw_v]) ?_
    simp [setOb, List.filter_cons]
    refine callK_of law04_awake (by simp) ?_
    simp
   ·simp [h1, l16, e16, grown_pos i0, grownS_pos i0, setOb, List.filter_cons]
    refine callFK_of ratio_One (by simp) ?_
    simp [ratV, raw_v, h1, l16, e16]
    refine callFK_of tot (by simp [toD_msC]) ?_
    simp [z0, rm, setOb, List.filter_cons]
    refine callFK_of dv (by simp [toD_rawc, raw_v]) ?_
    simp [setOb, List.filter_cons]
    refine callK_of law04_awake (by simp) ?_
    simp
  have ed : divR 1 (totQ l[i]) = .tup [.agg (rawOf (1 / totQ l[i])).c, .int .i64 0] := if_neg z0
  rw [ed] at dv
  obtain ⟨us, ub, ut⟩ := unit_bd (S := valsM l) sx z0 (fun p hp => List.mem_flatten.2 ⟨_, List.mem_map.2 ⟨_, List.getElem_mem h1, rfl⟩, List.mem_map.2 ⟨p, hp, rfl⟩⟩)
  have ht' : ∀ x ∈ l.take (i + 1), totQ x ≠ 0 := fun x hx => by
   rw [List.take_succ_eq_append_getElem h1] at hx
   rcases List.mem_append.1 hx with hx | hx
   ·exact ht x hx
   ·simp at hx; subst hx; exact z0
  by_cases i0 : i = 0
  ·subst i0
   simp at e1
   simp [h1, l16, e16, grown_zero, grownS_zero, setOb, List.filter_cons]
   refine callFK_of ratio_One (by simp) ?_
   simp [ratV, raw_v, h1, l16, e16]
   refine callFK_of tot (by simp [toD_msC]) ?_
   simp [rm, setOb, List.filter_cons]
   refine callFK_of dv (by simp [toD_rawc, raw_v]) ?_
   simp [h1, l16, e16, t3, setOb, List.filter_cons]
   refine callFK_of us (by simp [toD_msC, toD_rawc]) ?_
   simp (disch := omega) [rm, l16, e16, setOb, List.filter_cons, Nat.max_eq_right, Nat.max_eq_left, if_neg, if_pos]
   rw [wrap64 (by omega) (by omega)]
   refine ⟨(5, 1), ⟨h1, by dsimp only; omega, ht'⟩, by dsimp only; omega, ?_⟩
   refine weak_obs ?_ (by simp (disch := omega) [grown_pos, grownS_pos, e1, q0', q2', p0', p2', if_neg]) (by unfold ilV; repeat (first | exact sin_empty | refine sin_set (by simp) ?_)) ?_
   ·unfold ilV
    repeat (first | exact sub_empty | refine sub_set (by simp) ?_)
   ·simp only [grownS_pos (show 1 ≠ 0 by omega), grown_pos (show 1 ≠ 0 by omega)]
    intro p hp r hr y hy
    simp only [List.cons_append, List.nil_append, List.mem_cons, List.not_mem_nil, or_false] at hp
    rcases hp with rfl | rfl | rfl
    ·simp only [List.mem_singleton] at hr; subst hr; exact msC_in m y hy _
    ·simp only [List.mem_singleton] at hr; subst hr
     simp only [List.mem_singleton] at hy; subst hy
     simp
    ·exact hin _ r hr y hy _
  ·simp (disch := omega) [h1, l16, e16, grown_pos i0, grownS_pos i0, q0', q2', p0', p2', setOb, List.filter_cons]
   refine callFK_of ratio_One (by simp) ?_
   simp [ratV, raw_v, h1, l16, e16]
   refine callFK_of tot (by simp [toD_msC]) ?_
   simp (disch := omega) [rm, q0', q2', p0', p2', setOb, List.filter_cons, Nat.max_eq_right, Nat.max_eq_left]
   refine callFK_of dv (by simp [toD_rawc, raw_v]) ?_
   simp (disch := omega) [h1, l16, e16, t3, q0', q2', p0', p2', setOb, List.filter_cons, Nat.max_eq_right, Nat.max_eq_left, if_neg, if_pos]
   refine callFK_of us (by simp [toD_msC, toD_rawc]) ?_
   simp (disch := omega) [rm, l16, e16, q0', q2', p0', p2', setOb, List.filter_cons, Nat.max_eq_right, Nat.max_eq_left, if_neg, if_pos]
   rw [wrap64 (by omega) (by omega)]
   refine ⟨(q + 1 + 1 + 1, i + 1), ⟨h1, by dsimp only; omega, ht'⟩, by dsimp only; omega, ?_⟩
   refine weak_obs ?_ (by simp (disch := omega) [grown_pos, grownS_pos, e1, q0', q2', p0', p2', if_neg]) (by unfold ilV; repeat (first | exact sin_empty | refine sin_set (by simp) ?_)) ?_
   ·unfold ilV
    repeat (first | exact sub_empty | refine sub_set (by simp) ?_)
   ·simp only [grownS_pos (show i + 1 ≠ 0 by omega), grown_pos (show i + 1 ≠ 0 by omega)]
    intro p hp r hr y hy
    simp only [List.cons_append, List.nil_append, List.mem_cons, List.not_mem_nil, or_false] at hp
    rcases hp with rfl | rfl | rfl
    ·simp only [List.mem_singleton] at hr; subst hr; exact msC_in m y hy _
    ·simp only [List.mem_singleton] at hr; subst hr
     simp only [List.mem_singleton] at hy; subst hy
     simp
    ·exact hin _ r hr y hy _
 have hil : i = l.length := by omega
 subst hil
 have n0 : l.length ≠ 0 := fun h => c1 (List.length_eq_zero_iff.1 h)
 rw [List.take_length] at ht
 rw [grown_pos n0, grownS_pos n0]
 have et : List.take l.length (l.map fun x => msC (unitM x)) = (l.map unitM).map msC := by rw [List.take_of_length_le (by simp)]; simp
 rw [et]
 simp [h1, l16, e16, setOb, List.filter_cons]
 have gne : l.map unitM ≠ [] := fun h => c1 (by simpa using h)
 have gb : ∀ x ∈ l.map unitM, Bd x 27200 40 800 (valsM l) ∧ totQ x = 1 := fun x hx => by
  obtain ⟨y, hy, rfl⟩ := List.mem_map.1 hx
  obtain ⟨_, b, t⟩ := unit_bd (S := valsM l) (sl y hy) (ht y hy) (fun p hp => List.mem_flatten.2 ⟨_, List.mem_map.2 ⟨y, hy, rfl⟩, List.mem_map.2 ⟨p, hp, rfl⟩⟩)
  exact ⟨b, t⟩
 have eC : List.map (msC ∘ unitM) l = (l.map unitM).map msC := by simp
 have gl8 : (l.map unitM).length = l.length := by simp
 rw [eC]
 generalize hgs : l.map unitM = gs at *
 have gv : ∀ v, Bd (nxM gs v) 27200 40 800 (valsM l) := fun v => (gb _ (nxM_mem gne v)).1
 have vl : (valsM l).length ≤ 320 := Nat.le_trans (valsM_len (b := 40) fun x hx => (sl x hx).len) (by omega)
 have eg : Elts [V.elt [.dat (gs.map msC)]] := fun y hy => by simp at hy; exact ⟨_, hy⟩
 have bm : Bd m 6 40 300 (valsM [m]) := sm.bd (by simp)
 have LB := bind_bd (N := 40) (k := F.law04_MassWhole_1) bm (Nat.le_trans (normP_len _) bm.len) (fun v _ => gv v) eg (fun p hp => whole_1 gne (by omega) (bm.vok p hp).1) (by omega) (by omega) (by omega) (by omega) (by omega) (by omega) (by omega) (by omega) (by omega) (by omega) (by omega)
 have tB : totQ (bindM m (nxM gs)) = totQ m := totQ_bindM fun p _ => (gb _ (nxM_mem gne _)).2
 have sB : Sml (bindM m (nxM gs)) 44400 320 := ⟨LB.2.ok.mono (by omega), Nat.le_trans LB.2.len vl, LB.2.cnt⟩
 have pm : ∀ (σ : Sto) (k : Nat), ∀ r ∈ gs.map msC, mapO (toP σ (k + 1)) r = some r := fun σ k r hr => by
  obtain ⟨x, _, rfl⟩ := List.mem_map.1 hr; exact toP_msV _ _ _
 have pr : ∀ (σ : Sto) (k : Nat), ∀ r ∈ gs.map msC, r.flatMap (rchP σ (k + 1)) = [] := fun σ k r hr => by
  obtain ⟨x, _, rfl⟩ := List.mem_map.1 hr; exact rchP_msV _ _ _
 have gq : ∀ (s0 s1 s2 : St), s2 ≠ .dead → getOb [(0, ⟨s0, 16, [msC m]⟩), (2, ⟨s1, 1, [[.ref q 0 l.length]]⟩), (q, ⟨s2, 16, gs.map msC⟩)] q = some ⟨s2, 16, gs.map msC⟩ := fun s0 s1 s2 h => by
  simp [getOb, E.look, p0', p2', h]
 have g2 : ∀ (s0 s1 s2 : St), s1 ≠ .dead → getOb [(0, ⟨s0, 16, [msC m]⟩), (2, ⟨s1, 1, [[.ref q 0 l.length]]⟩), (q, ⟨s2, 16, gs.map msC⟩)] 2 = some ⟨s1, 1, [[.ref q 0 l.length]]⟩ := fun s0 s1 s2 h => by
  simp [getOb, E.look, h]
 refine callK_P2 (l := [2, q]) LB.1 (toPs2 (toP_agg (toP_msV _ _ _)) (toP_clo (mapO1 (toP_ptr (g2 _ _ _ (by simp)) rfl (by simp) (mapO1 (toP_refM (gq _ _ _ (by simp)) (by simp) (by simpa using gl8) (pm _ _))))))) (rchPs2 (r := []) (s := [2, q]) (rchP_agg (rchP_msV _ _ _)) (rchP_clo (by
  rw [List.flatMap_cons, List.flatMap_nil, rchP_ptrG (g2 _ _ _ (by simp)) rfl (t := [q]) (by rw [List.flatMap_cons, List.flatMap_nil, rchP_refM (gq _ _ _ (by simp)) (by simpa using gl8) (pr _ _)]; rfl)]
  rfl))) rfl ?_
 simp (disch := omega) [frz, Ms.v, q0', q2', p0', p2', e16, l16, d16, setOb, List.filter_cons, Nat.max_eq_right, Nat.max_eq_left, if_neg, if_pos]
 have mo := fun (g : oddsOk gs os = true) => mix_ok (fun x hx => (gb x hx).1) (show gs.length ≤ 8 by omega) (show os.length ≤ 8 by omega) (oddsOk_spec g).1 (List.length_pos_iff.2 gne) (oddsOk_spec g).2.2 (by omega) (by omega) (by omega) (by omega) (by omega)
 have mx := mass_Mix (ms := gs) (odds := os) (J := 800 + 2) (by omega) (by omega) ho fun g => ⟨(mo g).1, (mo g).2.1.ok.mono (by omega), (mo g).2.2⟩
 have h4 : ∀ σ : Sto, getOb σ q = some ⟨.fro, 16, gs.map msC⟩ → rch σ 12 (.ref q 0 l.length) = [q] := fun σ h => rch_flatM h (by simpa using gl8) fun r hr => by
  obtain ⟨x, _, rfl⟩ := List.mem_map.1 hr; exact rch_msV _ _ _
 have hgo : getOb [(q + 1, ⟨.own, 16, [msC (bindM m (nxM gs))]⟩), (0, ⟨.own, 16, [msC m]⟩), (2, ⟨.fro, 1, [[.ref q 0 l.length]]⟩), (q, ⟨.fro, 16, gs.map msC⟩)] q = some ⟨.fro, 16, gs.map msC⟩ := by
  simp (disch := omega) [getOb, E.look, p0', p2', if_neg]
 have hda : toDs [(q + 1, ⟨.own, 16, [msC (bindM m (nxM gs))]⟩), (0, ⟨.own, 16, [msC m]⟩), (2, ⟨.fro, 1, [[.ref q 0 l.length]]⟩), (q, ⟨.fro, 16, gs.map msC⟩)] [V.ref q 0 l.length, ilV os] = some [.dat (gs.map msC), ilV os] := by
  unfold ilV
  simp
  rw [toD_refM (k := 11) (es := 16) (st := .fro) (l := gs.map msC) hgo (by simp) (by simpa using gl8) (fun r hr => by obtain ⟨x, _, rfl⟩ := List.mem_map.1 hr; exact toD_msV _ _ _)]
 have rI : ∀ (σ : Sto), rch σ 12 (ilV os) = [] := fun _ => rfl
 have tB1 := sB.tot (by omega) (by omega) (by omega)
 have tM1 := sm.tot (by omega) (by omega) (by omega)
 have fM := totQ_fits sm (by omega)
 have sme := ratio_Same (x := rawOf (totQ m)) (y := rawOf (totQ m)) (rawOf_ok (fM.mono (by omega))) (rawOf_ok (fM.mono (by omega)))
 rw [tB] at tB1
 have f33 : Fits (1 : Rat) (2 ^ 33) := fits_one.mono (by omega)
 rcases mixV_cases gs os with ⟨g, e⟩ | ⟨g, e⟩
 ·rw [e] at mx
  refine callK_of mx hda ?_
  simp (disch := omega) [h4, hgo, rI, rchs, E.deep, frz, Ms.v, q0', q2', p0', p2', e16, l16, d16, setOb, List.filter_cons, Nat.max_eq_right, Nat.max_eq_left, if_neg, if_pos]
  refine callFK_of tB1 (by simp [toD_msC]) ?_
  simp (disch := omega) [rm, q0', q2', p0', p2', e16, l16, d16, setOb, List.filter_cons, if_neg]
  refine callFK_of tM1 (by simp [toD_msC]) ?_
  simp (disch := omega) [rm, q0', q2', p0', p2', e16, l16, d16, setOb, List.filter_cons, if_neg]
  refine callFK_of sme (by simp [toD_rawc, raw_v]) ?_
  simp
  refine callFK_of law04_awake (by simp) ?_
  simp
 ·rw [e] at mx
  obtain ⟨o1, o2, o3⟩ := oddsOk_spec g
  have tX : totQ (normM (mixM (gs.zip (oddsR os)))) = 1 := totQ_mix o1 (by
   have := (isum_bound o3).1
   have := List.length_pos_iff.2 o2
   omega) fun x hx => (gb x hx).2
  have sX := (mo g).2.1
  have tX1 := sX.tot (by omega) (by omega) (by omega)
  rw [tX] at tX1
  generalize normM (mixM (gs.zip (oddsR os))) = X at *
  refine callK_of mx hda ?_
  simp (disch := omega) [h4, hgo, rI, rchs, E.deep, frz, Ms.v, q0', q2', p0', p2', e16, l16, d16, setOb, List.filter_cons, Nat.max_eq_right, Nat.max_eq_left, if_neg, if_pos]
  refine callFK_of tB1 (by simp [toD_msC]) ?_
  simp (disch := omega) [rm, q0', q2', p0', p2', e16, l16, d16, setOb, List.filter_cons, if_neg]
  refine callFK_of tM1 (by simp [toD_msC]) ?_
  simp (disch := omega) [rm, q0', q2', p0', p2', e16, l16, d16, setOb, List.filter_cons, if_neg]
  refine callFK_of sme (by simp [toD_rawc, raw_v]) ?_
  simp (disch := omega) [rm, q0', q2', p0', p2', e16, l16, d16, setOb, List.filter_cons, if_neg]
  refine callFK_of tX1 (by simp [toD_msC]) ?_
  simp [rm]
  refine callFK_of ratio_One (by simp) ?_
  simp [ratV, raw_v]
  refine callFK_of (ratio_Same (rawOf_ok f33) (rawOf_ok f33)) (by simp [toD_rawc, raw_v]) ?_
  simp
  refine callFK_of law04_awake (by simp) ?_
  simp
end Go.Proofs.YtmjgehbpcchjpaaGreatDoor
