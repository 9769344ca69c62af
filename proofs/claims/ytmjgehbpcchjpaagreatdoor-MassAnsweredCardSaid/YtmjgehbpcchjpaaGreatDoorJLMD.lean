/- MassAnswered, over data. -/
import Derived.Test.YtmjgehbpcchjpaaGreatDoorHX2
import Derived.Test.YtmjgehbpcchjpaaGreatDoorHY
import Derived.Test.YtmjgehbpcchjpaaGreatDoorHQ
namespace Go.Proofs.YtmjgehbpcchjpaaGreatDoor.F
open Go Go.Proofs Go.Proofs.YtmjgehbpcchjpaaGreatDoor.E Go.Proofs.YtmjgehbpcchjpaaGreatDoor.Q
abbrev law04_MassAnswered : Nat := 8
def law04_MassAnswered_c : MFn := ⟨141,(.seq (r [o 2 (.box (.t 0)),o 3 (.box (.t 1)),o 4 (.mv (.c (.bool false)))] [2,3]) (.seq (.seq (r [o 16 (.ld (some 16) (.t 2)),o 17 (.ld (some 16) (.t 3)),o 18 (.buildSl 16 2 zM [(0,(.t 16)),(1,(.t 17))]),o 19 (.call 14 [(.t 18)]),o 20 (.un .not (.t 19)),o 21 (.mv (.t 20)),n 22 21 (.ld (some 16) (.t 2)),n 23 21 (.call 35 [(.t 22)]),n 24 21 (.un .not (.t 23)),o 25 (.pick (.t 21) (.c (.bool true)) (.t 24)),o 26 (.mv (.t 25)),n 27 26 (.ld (some 16) (.t 3)),n 28 26 (.call 35 [(.t 27)]),n 29 26 (.un .not (.t 28)),o 30 (.pick (.t 26) (.c (.bool true)) (.t 29))] [2,3,30]) (.cond (.t 30) (.seq (r [o 31 (.call 16 []),o 4 (.mv (.t 31))] [4]) .ret) .skip)) (.seq (r [o 33 (.fA 4 (.t 2)),o 34 (.ld (some 3) (.t 33)),o 35 (.ld (some 16) (.t 3)),o 36 (.callF 44 [(.t 35)]),o 37 (.callF 43 [(.t 34),(.t 36)]),o 32 (.mv (.t 37)),o 38 (.ext (.t 32) 0),o 39 (.ext (.t 32) 1),o 5 (.alloc zR),z (.st 3 (.t 5) (.t 38)),o 6 (.mv (.t 39))] [2,3,5,6]) (.seq (.seq (r [o 40 (.mv (.t 6)),o 41 (.bin .neq (.t 40) (i 0))] [2,3,5,41]) (.cond (.t 41) (.seq (r [o 42 (.call 16 []),o 4 (.mv (.t 42))] [4]) .ret) .skip)) (.seq (r [o 43 (.ld (some 16) (.t 2)),o 7 (.alloc zM),z (.st 16 (.t 7) (.t 43))] [2,3,5,7]) (.seq (r [o 44 (.call 45 []),o 45 (.fA 4 (.t 7)),z (.st 3 (.t 45) (.t 44))] [2,3,5,7]) (.seq (.seq (r [o 8 (.mv (i 0))] [2,3,5,7,8]) (.block 0 (.loop (.seq (.seq (r [o 46 (.mv (.t 8)),o 47 (.fA 0 (.t 3)),o 48 (.ld none (.t 47)),o 49 (.lenS (.t 48)),o 50 (.bin .lss (.t 46) (.t 49))] [2,3,5,7,8,50]) (.cond (.t 50) .skip (.exit 0))) (.seq (.block 1 (r [o 53 (.ld (some 16) (.t 7)),o 54 (.fA 0 (.t 3)),o 55 (.ld none (.t 54)),o 56 (.mv (.t 8)),o 57 (.ixA 6 (.t 55) (.t 56)),o 58 (.fA 0 (.t 57)),o 59 (.ld (some 3) (.t 58)),o 60 (.fA 0 (.t 3)),o 61 (.ld none (.t 60)),o 62 (.mv (.t 8)),o 63 (.ixA 6 (.t 61) (.t 62)),o 64 (.fA 3 (.t 63)),o 65 (.ld (some 3) (.t 64)),o 66 (.callF 46 [(.t 59),(.t 65)]),o 67 (.ld (some 3) (.t 5)),o 68 (.callF 22 [(.t 66),(.t 67)]),o 69 (.callF 20 [(.t 53),(.t 68)]),z (.st 16 (.t 7) (.t 69))] [2,3,5,7,8])) (r [o 51 (.mv (.t 8)),o 52 (.bin .add (.t 51) (i 1)),o 8 (.mv (.t 52))] [2,3,5,7,8])))))) (.seq (r [o 71 (.ld (some 16) (.t 7)),o 72 (.call 25 [(.t 71)]),o 70 (.mv (.t 72)),o 73 (.ext (.t 70) 0),o 74 (.ext (.t 70) 1),o 9 (.mv (.t 73)),o 10 (.mv (.t 74))] [2,7,9,10]) (.seq (.seq (r [o 75 (.mv (.t 10)),o 76 (.bin .neq (.t 75) (i 0))] [2,7,9,10,76]) (.cond (.t 76) (.seq (r [o 77 (.mv (.t 10)),o 78 (.bin .eql (.t 77) (i 31)),o 79 (.mv (.t 78)),y 80 79 (.ld (some 16) (.t 7)),y 81 79 (.call 44 [(.t 80)]),y 82 79 (.call 36 [(.t 81)]),y 83 79 (.bin .eql (.t 82) (i 0)),o 84 (.pick (.t 79) (.t 83) (.c (.bool false))),o 85 (.mv (.t 84)),y 86 85 (.call 16 []),o 87 (.pick (.t 85) (.t 86) (.c (.bool false))),o 4 (.mv (.t 87))] [4]) .ret) .skip)) (.seq (r [o 88 (.call 45 []),o 11 (.alloc zR),z (.st 3 (.t 11) (.t 88))] [2,9,11]) (.seq (.seq (r [o 12 (.mv (i 0))] [2,9,11,12]) (.block 2 (.loop (.seq (.seq (r [o 89 (.mv (.t 12)),o 90 (.mv (.t 9)),o 91 (.lenS (.t 90)),o 92 (.bin .lss (.t 89) (.t 91))] [2,9,11,12,92]) (.cond (.t 92) .skip (.exit 2))) (.seq (.block 3 (.seq (r [o 95 (.ld (some 3) (.t 11)),o 96 (.mv (.t 9)),o 97 (.mv (.t 12)),o 98 (.ixA 6 (.t 96) (.t 97)),o 99 (.fA 3 (.t 98)),o 100 (.ld (some 3) (.t 99)),o 101 (.callF 40 [(.t 95),(.t 100)]),z (.st 3 (.t 11) (.t 101))] [2,9,11,12]) (.seq (r [o 103 (.ld (some 16) (.t 2)),o 104 (.mv (.t 9)),o 105 (.mv (.t 12)),o 106 (.ixA 6 (.t 104) (.t 105)),o 107 (.fA 0 (.t 106)),o 108 (.ld (some 3) (.t 107)),o 109 (.callF 27 [(.t 103),(.t 108)]),o 102 (.mv (.t 109)),o 110 (.ext (.t 102) 0),o 111 (.ext (.t 102) 1),o 112 (.ext (.t 102) 2),o 13 (.alloc zR),o 14 (.alloc zR),z (.st 3 (.t 13) (.t 110)),z (.st 3 (.t 14) (.t 111)),o 15 (.mv (.t 112))] [2,9,11,12,13,14,15]) (.seq (r [o 113 (.mv (.t 15)),o 114 (.bin .neq (.t 113) (i 0)),o 115 (.mv (.t 114)),n 116 115 (.ld (some 3) (.t 13)),n 117 115 (.mv (.t 9)),n 118 115 (.mv (.t 12)),n 119 115 (.ixA 6 (.t 117) (.t 118)),n 120 115 (.fA 3 (.t 119)),n 121 115 (.ld (some 3) (.t 120)),n 122 115 (.callF 47 [(.t 116),(.t 121)]),n 123 115 (.bin .gtr (.t 122) (i 0)),o 124 (.pick (.t 115) (.c (.bool true)) (.t 123)),o 125 (.mv (.t 124)),n 126 125 (.mv (.t 9)),n 127 125 (.mv (.t 12)),n 128 125 (.ixA 6 (.t 126) (.t 127)),n 129 125 (.fA 3 (.t 128)),n 130 125 (.ld (some 3) (.t 129)),n 131 125 (.ld (some 3) (.t 14)),n 132 125 (.callF 47 [(.t 130),(.t 131)]),n 133 125 (.bin .gtr (.t 132) (i 0)),o 134 (.pick (.t 125) (.c (.bool true)) (.t 133))] [2,9,11,12,134]) (.cond (.t 134) (.seq (r [o 4 (.mv (.c (.bool false)))] [4]) .ret) .skip))))) (r [o 93 (.mv (.t 12)),o 94 (.bin .add (.t 93) (i 1)),o 12 (.mv (.t 94))] [2,9,11,12])))))) (.seq (r [o 135 (.ld (some 3) (.t 11)),o 136 (.callF 48 []),o 137 (.callF 41 [(.t 135),(.t 136)]),o 138 (.mv (.t 137)),y 139 138 (.callF 16 []),o 140 (.pick (.t 138) (.t 139) (.c (.bool false))),o 4 (.mv (.t 140))] [4]) .ret)))))))))))),[.t 4]⟩
theorem law04_MassAnswered_ok : cFn Tryz.prog (kps [[2,3],[2,3,30],[4],[2,3,5,6],[2,3,5,41],[4],[2,3,5,7],[2,3,5,7],[2,3,5,7,8],[2,3,5,7,8,50],[2,3,5,7,8],[2,3,5,7,8],[2,7,9,10],[2,7,9,10,76],[4],[2,9,11],[2,9,11,12],[2,9,11,12,92],[2,9,11,12],[2,9,11,12],[2,9,11,12,13,14,15],[2,9,11,12,134],[4],[4]]) [] 8 = some law04_MassAnswered_c := by kernel_rfl
end Go.Proofs.YtmjgehbpcchjpaaGreatDoor.F

namespace Go.Proofs.YtmjgehbpcchjpaaGreatDoor
open Go Go.Proofs Go.Proofs.YtmjgehbpcchjpaaGreatDoor.E
set_option linter.unusedSimpArgs false
set_option linter.unusedVariables false
theorem found_sml {m : Ms} {l : List Part} {w : Rat} (sm : Sml m 6 40) (hl : l.length ≤ 40) (ol : ∀ p ∈ l, p.v.Ok ∧ p.w.Ok 6) (cl : ∀ p ∈ l, cntT p.v ≤ 1000000) (fw : Fits w 300) (i : Nat) : Sml (foundM m l w i) 1000 80 := by
 have ht : (l.take i).length ≤ 40 := by rw [List.length_take]; omega
 have mt : ∀ p ∈ l.take i, p ∈ l := fun p hp => List.mem_of_mem_take hp
 have hmem : ∀ p ∈ (foundM m l w i).parts, ∃ q, (q ∈ m.parts ∨ q ∈ l) ∧ q.v = p.v := fun p hp => by
  unfold foundM at hp
  split at hp
  ·have : p ∈ m.parts := by simpa [accM, sclP] using hp
   exact ⟨p, .inl this, rfl⟩
  ·obtain ⟨q, hq, e⟩ := normP_vals hp
   rcases List.mem_append.1 hq with hq | hq
   ·exact ⟨q, .inl hq, e⟩
   ·obtain ⟨r, hr, rfl⟩ := List.mem_map.1 hq
    exact ⟨r, .inr (mt r hr), e⟩
 have hw : ∀ p ∈ (foundM m l w i).parts, p.w.Ok 1000 := fun p hp => by
  by_cases h0 : i = 0
  ·subst h0
   have : p ∈ m.parts := by simpa [foundM, accM, sclP] using hp
   exact rok (sm.ok.parts p this).2 (by omega)
  ·have e : foundM m l w i = normM (accM m (l.take i) w) := if_neg h0
   rw [e] at hp
   rw [(normP_w hp).1]
   have ea := wsum_accM m (l.take i) w p.v
   rw [ea]
   have f1 := wsum_fits (k := 6) (by omega) (fun x hx => Raw.fits (sm.ok.parts x hx).2 (by omega)) p.v
   have f2 := wsum_fits (k := 6) (l := l.take i) (by omega) (fun x hx => Raw.fits (ol x (mt x hx)).2 (by omega)) p.v
   have l1 := sm.len
   have f3 := fits_add (f1.mono (show _ ≤ 281 by omega)) (fits_mul (f2.mono (show _ ≤ 281 by omega)) fw (by omega))
   exact rawOf_ok (f3.mono (by omega))
 have hq : ∀ x : Raw, x.Ok 6 → (rawOf x.q).Ok 1000 := fun x hx => rawOf_ok ((Raw.fits hx (by omega)).mono (by omega))
 have z := z_ok (show 1 ≤ 1000 by omega)
 have zz : (rawOf (rawOf 0).q).Ok 1000 := by rw [rawOf_q]; exact z
 refine ⟨⟨fun p hp => ⟨?_, hw p hp⟩, ?_, ?_, ?_, ?_, ?_⟩, ?_, fun p hp => ?_⟩
 ·obtain ⟨q, hq, e⟩ := hmem p hp
  rw [← e]
  rcases hq with hq | hq
  ·exact (sm.ok.parts q hq).1
  ·exact (ol q hq).1
 ·unfold foundM; split
  ·exact rok sm.ok.rf (by omega)
  ·exact hq _ sm.ok.rf
 ·unfold foundM; split
  ·exact z
  ·exact zz
 ·unfold foundM; split
  ·exact rok sm.ok.f0 (by omega)
  ·exact hq _ sm.ok.f0
 ·unfold foundM; split
  ·exact rok sm.ok.f1 (by omega)
  ·exact hq _ sm.ok.f1
 ·unfold foundM; split
  ·exact rok sm.ok.f2 (by omega)
  ·exact hq _ sm.ok.f2
 ·have l1 := sm.len
  unfold foundM; split
  ·simp [accM, sclP]; omega
  ·refine Nat.le_trans (normM_len _) ?_
   simp only [accM, List.length_append, sclP, List.length_map]
   omega
 ·obtain ⟨q, hq, e⟩ := hmem p hp
  rw [← e]
  rcases hq with hq | hq
  ·exact sm.cnt q hq
  ·exact cl q hq
theorem law04_one {v : Tr} {w : Raw} {K : Nat} (hK : 1 ≤ K) (hK31 : 2 * K + 20 ≤ 2 ^ 31) (hv : v.Ok) (hm : cntT v ≤ 1000000) (hw : w.Ok K) : CallD Tryz.prog F.law04_one [.agg v.cells, .agg w.c] (· = .agg (msC (normM (onM 0 0 v w)))) := by
 refine callD_by F.law04_one_ok ?_
 unfold F.law04_one_c
 have e16 : ∀ m : Ms, List.take 16 (msC m) = msC m := fun m => by simp [msC, tailC]
 have l16 : ∀ m : Ms, (msC m).length = 16 := fun m => by simp [msC, tailC]
 have d16 : ∀ m : Ms, List.drop 16 (msC m) = [] := fun m => by simp [msC, tailC]
 have t3 : ∀ x : Raw, List.take 3 x.c = x.c := fun x => by simp [Raw.c]
 simp [setOb, List.filter_cons, t3]
 refine callK_of (mass_Of (k := 0) (n := 0) hK hK31 hv hm hw) (by simp [outV, toD_cells, toD_rawc, raw_v]) ?_
 simp [setOb, List.filter_cons, e16, l16, d16, toD_msC]
theorem Sml.of {v : Tr} {w : Raw} (hv : v.Ok) (hm : cntT v ≤ 1000000) (hw : w.Ok 6) : Sml (normM (onM 0 0 v w)) 20 1 := by
 have e : onM 0 0 v w = ⟨[⟨v, w⟩], rawOf 0, rawOf 0, rawOf 0, rawOf 0, rawOf 0⟩ := if_pos rfl
 have s : Sml (onM 0 0 v w) 6 1 := ⟨onM_ok (by omega) hv hw, onM_len _ _ _ _, by rw [e]; simpa using hm⟩
 exact (s.norm (by omega)).mono (by omega) (Nat.le_refl _)
set_option maxHeartbeats 16000000 in
theorem massAnswered_law {l0 l1 : List V} (h0 : ∃ n, Typed Tryz.prog n T.mass l0) (h1 : ∃ n, Typed Tryz.prog n T.mass l1) : CallD Tryz.prog F.law04_MassAnswered [.agg l0, .agg l1] (· = .bool true) := by
 obtain ⟨_, h0⟩ := h0
 obtain ⟨_, h1⟩ := h1
 obtain ⟨a, rfl, ha, la⟩ := read_mass h0
 obtain ⟨b, rfl, hb, lb⟩ := read_mass h1
 clear h0 h1
 refine callD_by F.law04_MassAnswered_ok ?_
 unfold F.law04_MassAnswered_c
 have e16 : ∀ m : Ms, List.take 16 (msC m) = msC m := fun m => by simp [msC, tailC]
 have l16 : ∀ m : Ms, (msC m).length = 16 := fun m => by simp [msC, tailC]
 have d16 : ∀ m : Ms, List.drop 16 (msC m) = [] := fun m => by simp [msC, tailC]
 have rm : ∀ (m : Ms) (σ : Sto) (n : Nat), (msC m).flatMap (rch σ n) = [] := fun m => rch_msC
 simp [setOb, List.filter_cons, e16, l16]
 have few := law04_Few (l := [a, b]) (by simp) (by simp; exact ⟨⟨ha, la⟩, ⟨hb, lb⟩⟩)
 simp at few
 refine callK_of few (by
  simp
  rw [toD_refM (k := 11) (es := 16) (st := .own) (l := [msC a, msC b]) (by simp [getOb, E.look]) (by simp) (by simp) (by simp; exact ⟨toD_msC _ _ _, toD_msC _ _ _⟩)]) ?_
 cases c1 : (fewM a && fewM b) with
 | false =>
   simp [setOb, List.filter_cons]
   refine callK_of law04_awake (by simp) ?_
   simp
 | true =>
 simp only [Bool.and_eq_true] at c1
 have sa := few_sml ha c1.1
 have sb := few_sml hb c1.2
 simp [setOb, List.filter_cons, e16, l16, d16]
 have la := sa.len
 have lb := sb.len
 refine callK_of (ref04_Right (sa.ok.mono (by omega)) (by omega)) (by simp [toD_msC]) ?_
 cases r1 : rightM a with
 | false =>
   simp [setOb, List.filter_cons]
   refine callK_of law04_awake (by simp) ?_
   simp
 | true =>
 simp [setOb, List.filter_cons, e16, l16, d16, rm]
 refine callK_of (ref04_Right (sb.ok.mono (by omega)) (by omega)) (by simp [toD_msC]) ?_
 cases r2 : rightM b with
 | false =>
   simp [setOb, List.filter_cons]
   refine callK_of law04_awake (by simp) ?_
   simp
 | true =>
 have lo3 : ∀ m : Ms, List.take 3 (List.drop 4 (msC m)) = m.lo.c := fun m => by simp [msC, tailC, Raw.c]
 have t3 : ∀ x : Raw, List.take 3 x.c = x.c := fun x => by simp [Raw.c]
 have fQ : Fits (psum b.parts) 281 := (psum_fits (by omega) sb.ok.parts).mono (by omega)
 have fP : Fits (psum a.parts) 281 := (psum_fits (by omega) sa.ok.parts).mono (by omega)
 have fL := Raw.fits sa.ok.lo (show 1 ≤ 6 by omega)
 simp [setOb, List.filter_cons, e16, l16, d16, rm, lo3, t3]
 refine callFK_of (mass_Values (K := 6) (by omega) (by omega) sb.ok (by omega) (by omega)) (by simp [toD_msC]) ?_
 simp [ratV, raw_v, setOb, List.filter_cons, e16, l16, d16, rm, lo3, t3]
 refine callFK_of (ratio_Div (rok sa.ok.lo (by omega)) (rawOf_ok (fQ.mono (by omega)))) (by simp [toD_rawc, raw_v]) ?_
 rw [rawOf_q]
 by_cases hQ : psum b.parts = 0
 ·simp [divR, hQ, setOb, List.filter_cons]
  refine callK_of law04_awake (by simp) ?_
  simp
 simp [divR, hQ, ratV, raw_v, setOb, List.filter_cons, e16, l16, d16, rm, lo3, t3]
 refine callK_of ratio_Zero (by simp) ?_
 simp [ratV, raw_v, setOb, List.filter_cons, e16, l16, d16, rm, lo3, t3]
 have fW : Fits (a.lo.q / psum b.parts) 300 := (fits_divM fL fQ (by omega)).mono (by omega)
 generalize hW : a.lo.q / psum b.parts = w at *
 have hd : ∀ (m : Ms) (h : 0 < (msC m).length), (msC m)[0]'h = pl m.parts := fun m _ => rfl
 have hl0 : ∀ m : Ms, 0 < (msC m).length := fun m => by rw [l16]; omega
 have fsml := found_sml sa lb sb.ok.parts sb.cnt fW
 have e0 : List.take 4 (msC a) ++ ((rawOf 0).c ++ List.drop 7 (msC a)) = msC (foundM a b.parts w 0) := by simp [foundM, accM, msC, tailC, Raw.c, sclP]
 rw [e0]
 have inW : ∀ m : Ms, ∀ p ∈ ([(0, ⟨.own, 16, [msC a]⟩), (1, ⟨.own, 16, [msC b]⟩), (3, ⟨.own, 3, [(rawOf w).c]⟩), (4, ⟨.own, 16, [msC m]⟩)] : Sto), ∀ r ∈ p.2.cells, ∀ y ∈ r, ∀ f : Nat → Bool, y.within f = true := fun m p hp r hr y hy f => by
  simp only [List.mem_cons, List.not_mem_nil, or_false] at hp
  rcases hp with rfl | rfl | rfl | rfl
  ·simp only [List.mem_singleton] at hr; subst hr; exact msC_in _ y hy f
  ·simp only [List.mem_singleton] at hr; subst hr; exact msC_in _ y hy f
  ·simp only [List.mem_singleton] at hr; subst hr; exact rawc_within _ y hy
  ·simp only [List.mem_singleton] at hr; subst hr; exact msC_in _ y hy f
 refine wm_loop (fun i : Nat => (((((Sl.empty.set 8 (.int .i64 i)).set 7 (.ptr 4 0 0)).set 5 (.ptr 3 0 0)).set 3 (.ptr 1 0 0)).set 2 (.ptr 0 0 0),
  [(0, ⟨.own, 16, [msC a]⟩), (1, ⟨.own, 16, [msC b]⟩), (3, ⟨.own, 3, [(rawOf w).c]⟩), (4, ⟨.own, 16, [msC (foundM a b.parts w i)]⟩)]))
  (fun i => i ≤ b.parts.length) (fun i => b.parts.length - i) 0 (by omega) ?_ ?_
 ·refine weak_obs ?_ (by simp) (by repeat (first | exact sin_empty | refine sin_set (by simp) ?_)) (fun p hp r hr y hy => inW _ p hp r hr y hy _)
  repeat (first | exact sub_empty | refine sub_set (by simp) ?_)
 intro i hi
 by_cases h1 : i < b.parts.length
 ·obtain ⟨okv, okw⟩ := sb.ok.parts _ (List.getElem_mem h1)
  have cv := sb.cnt _ (List.getElem_mem h1)
  obtain ⟨ks, ss⟩ := ((Sml.of okv cv okw).mono (show 20 ≤ 300 by omega) (Nat.le_refl 1)).scl (w := rawOf w) (rawOf_ok fW) (by omega) (by omega) (by omega)
  rw [rawOf_q] at ks ss
  obtain ⟨ka, _⟩ := ((fsml i).mono (show 1000 ≤ 1202 by omega) (Nat.le_refl _)).add (ss.mono (show _ ≤ 1202 by omega) (Nat.le_refl _)) (by omega) (by omega) (by omega) (by omega)
  rw [found_step h1] at ka
  have tk : List.take 6 (partC b.parts[i]) = partC b.parts[i] := by simp
  simp [h1, hd, hl0, tk, setOb, List.filter_cons, e16, l16, d16, rm, t3]
  refine callFK_of (law04_one (K := 6) (by omega) (by omega) okv cv okw) (by simp [toD_cells, toD_rawc]) ?_
  simp [rm]
  refine callFK_of ks (by simp [toD_msC, toD_rawc]) ?_
  simp [rm]
  refine callFK_of ka (by simp [toD_msC]) ?_
  simp [setOb, List.filter_cons, e16, l16, d16, rm, t3]
  rw [wrap64 (by omega) (by omega)]
  refine ⟨i + 1, h1, by dsimp only; omega, ?_⟩
  refine weak_obs ?_ (by simp) (by repeat (first | exact sin_empty | refine sin_set (by simp) ?_)) (fun p hp r hr y hy => inW _ p hp r hr y hy _)
  repeat (first | exact sub_empty | refine sub_set (by simp) ?_)
 have hil : i = b.parts.length := by omega
 subst hil
 simp [h1, hd, hl0, setOb, List.filter_cons, e16, l16, d16, rm, t3]
 have sf := fsml b.parts.length
 have hT : psum (foundM a b.parts w b.parts.length).parts = psum a.parts + a.lo.q := by
  rw [psum_foundM, List.take_length, ← hW, Rat.mul_comm, Rat.div_mul_cancel hQ]
 have hV : ∀ v, wsum (foundM a b.parts w b.parts.length).parts v = wsum a.parts v + wsum b.parts v * w := fun v => by
  rw [wsum_foundM, List.take_length]
 have ans := mass_Answer (K := 1000) (by omega) sf.ok (by have := sf.len; omega) (by omega) sf.cnt
 have fT : Fits (psum a.parts + a.lo.q) 288 := (fits_add fP fL).mono (by omega)
 have vf := mass_Values (K := 1000) (by omega) (by omega) sf.ok (by have := sf.len; omega) (by have := Nat.mul_le_mul_right (1000 + 1) sf.len; omega)
 rw [hT] at vf
 generalize hF : foundM a b.parts w b.parts.length = fo at *
 unfold ansV at ans
 rw [hT] at ans
 by_cases z1 : psum a.parts + a.lo.q = 0
 ·rw [if_pos z1] at ans
  refine callK_of ans (by simp [toD_msC]) ?_
  simp [setOb, List.filter_cons, e16, l16, d16, rm, t3]
  refine callK_of vf (by simp [toD_msC]) ?_
  rw [z1]
  simp [ratV, raw_v, setOb, List.filter_cons, e16, l16, d16, rm, t3]
  refine callK_of (ratio_Sign (z_ok (by omega))) (by simp [toD_rawc, raw_v]) ?_
  rw [rawOf_q]
  simp [sgnR_zero]
  refine callK_of law04_awake (by simp) ?_
  simp
 rw [if_neg z1] at ans
 refine callK_of ans (by simp [toD_msC]) ?_
 simp [setOb, List.filter_cons, e16, l16, d16, rm, t3]
 refine callK_of ratio_Zero (by simp) ?_
 simp [ratV, raw_v, setOb, List.filter_cons, e16, l16, d16, rm, t3]
 have hone : psum (normP (sclP fo.parts (1 / (psum a.parts + a.lo.q)))) = 1 := by
  rw [psum_normP, psum_sclP, hT, Rat.mul_comm]; exact Rat.div_mul_cancel z1
 have hLw : ∀ p ∈ normP (sclP fo.parts (1 / (psum a.parts + a.lo.q))), p.v.Ok ∧ p.w = rawOf ((wsum a.parts p.v + wsum b.parts p.v * w) / (psum a.parts + a.lo.q)) ∧ Fits ((wsum a.parts p.v + wsum b.parts p.v * w) / (psum a.parts + a.lo.q)) 1200 := fun p hp => by
  obtain ⟨x, hx, e⟩ := normP_vals hp
  obtain ⟨y, hy, rfl⟩ := List.mem_map.1 hx
  refine ⟨e ▸ (sf.ok.parts y hy).1, ?_, ?_⟩
  ·rw [(normP_w hp).1, wsum_sclP, hV, mul_one_div]
  ·have f1 := wsum_fits (k := 6) (by omega) (fun x hx => Raw.fits (sa.ok.parts x hx).2 (by omega)) p.v
   have f2 := wsum_fits (k := 6) (by omega) (fun x hx => Raw.fits (sb.ok.parts x hx).2 (by omega)) p.v
   have f3 := fits_add (f1.mono (show _ ≤ 281 by omega)) (fits_mul (f2.mono (show _ ≤ 281 by omega)) fW (by omega))
   exact (fits_divM f3 fT (by omega)).mono (by omega)
 have hLl : (normP (sclP fo.parts (1 / (psum a.parts + a.lo.q)))).length ≤ 80 := Nat.le_trans (normP_len _) (by simp [sclP]; exact sf.len)
 generalize normP (sclP fo.parts (1 / (psum a.parts + a.lo.q))) = L at *
 have bet := fun v => found_bet (right_pos r1) (right_pos r2) (right_lo sa.ok r1) hQ z1 v
 rw [hW] at bet
 have inX : ∀ x : Raw, ∀ p ∈ ([(0, ⟨.own, 16, [msC a]⟩), (5, ⟨.own, 3, [x.c]⟩)] : Sto), ∀ r ∈ p.2.cells, ∀ y ∈ r, ∀ f : Nat → Bool, y.within f = true := fun x p hp r hr y hy f => by
  simp only [List.mem_cons, List.not_mem_nil, or_false] at hp
  rcases hp with rfl | rfl
  ·simp only [List.mem_singleton] at hr; subst hr; exact msC_in _ y hy f
  ·simp only [List.mem_singleton] at hr; subst hr; exact rawc_within _ y hy
 have fS : ∀ i, Fits (psum (L.take i)) 100000 := fun i => by
  have h1 := sumBy_fits (k := 1200) (f := fun p : Part => p.w.q) (L.take i) fun p hp => by
   obtain ⟨_, e, f⟩ := hLw p (List.mem_of_mem_take hp)
   rw [e, rawOf_q]
   exact f
  refine Fits.mono h1 ?_
  have : (L.take i).length ≤ 80 := by rw [List.length_take]; omega
  omega
 refine wm_loop (fun i : Nat => ((((Sl.empty.set 12 (.int .i64 i)).set 11 (.ptr 5 0 0)).set 9 (pl L)).set 2 (.ptr 0 0 0),
  [(0, ⟨.own, 16, [msC a]⟩), (5, ⟨.own, 3, [(rawOf (psum (L.take i))).c]⟩)])) (fun i => i ≤ L.length) (fun i => L.length - i) 0 (by omega) ?_ ?_
 ·refine weak_obs ?_ (by simp [psum_nil]) (by repeat (first | exact sin_empty | refine sin_set (by simp) ?_)) (fun p hp r hr y hy => inX _ p hp r hr y hy _)
  repeat (first | exact sub_empty | refine sub_set (by simp) ?_)
 intro i hi
 by_cases h1 : i < L.length
 ·obtain ⟨okv, ew, fw⟩ := hLw _ (List.getElem_mem h1)
  have tk : List.take 6 (partC L[i]) = partC L[i] := by simp
  have wq : L[i].w.q = (wsum a.parts L[i].v + wsum b.parts L[i].v * w) / (psum a.parts + a.lo.q) := by rw [ew, rawOf_q]
  have okw : L[i].w.Ok 1200 := by rw [ew]; exact rawOf_ok fw
  have hst : psum (L.take (i + 1)) = psum (L.take i) + L[i].w.q := sumBy_take (f := fun p : Part => p.w.q) h1
  have f1 := wsum_fits (k := 6) (by omega) (fun x hx => Raw.fits (sa.ok.parts x hx).2 (by omega)) L[i].v
  have f1' := f1.mono (show _ ≤ 281 by omega)
  have lowO : (rawOf (wsum a.parts L[i].v / (psum a.parts + a.lo.q))).Ok 1200 := rawOf_ok ((fits_divM f1' fT (by omega)).mono (by omega))
  have higO : (rawOf ((wsum a.parts L[i].v + a.lo.q) / (psum a.parts + a.lo.q))).Ok 1200 := rawOf_ok ((fits_divM (fits_add f1' fL) fT (by omega)).mono (by omega))
  obtain ⟨b1, b2⟩ := bet L[i].v
  have k1 : ¬ 0 < cmpR (wsum a.parts L[i].v / (psum a.parts + a.lo.q)) ((wsum a.parts L[i].v + wsum b.parts L[i].v * w) / (psum a.parts + a.lo.q)) := by
   have := cmpR_le.2 b1; omega
  have k2 : ¬ 0 < cmpR ((wsum a.parts L[i].v + wsum b.parts L[i].v * w) / (psum a.parts + a.lo.q)) ((wsum a.parts L[i].v + a.lo.q) / (psum a.parts + a.lo.q)) := by
   have := cmpR_le.2 b2; omega
  have bnd := mass_Bounds (m := a) (v := L[i].v) (K := 6) (by omega) sa.ok okv (by omega) (by omega)
  unfold bndV at bnd
  rw [if_neg z1] at bnd
  have c1 := ratio_Compare (rok lowO (show 1200 ≤ 2 ^ 33 by omega)) (rok okw (show 1200 ≤ 2 ^ 33 by omega))
  have c2 := ratio_Compare (rok okw (show 1200 ≤ 2 ^ 33 by omega)) (rok higO (show 1200 ≤ 2 ^ 33 by omega))
  rw [rawOf_q, wq] at c1 c2
  have add := ratio_Add (rawOf_ok ((fS i).mono (show 100000 ≤ 2 ^ 31 by omega))) (rok okw (show 1200 ≤ 2 ^ 31 by omega))
  rw [rawOf_q, ← hst] at add
  simp [h1, tk, setOb, List.filter_cons, e16, l16, d16, rm, t3]
  refine callFK_of add (by simp [toD_rawc, raw_v]) ?_
  simp [ratV, raw_v, h1, tk, setOb, List.filter_cons, e16, l16, d16, rm, t3]
  refine callFK_of bnd (by simp [toD_msC, toD_cells]) ?_
  simp [ratV, raw_v, h1, tk, setOb, List.filter_cons, e16, l16, d16, rm, t3]
  refine callFK_of c1 (by simp [toD_rawc, raw_v]) ?_
  simp [k1, h1, tk, setOb, List.filter_cons, e16, l16, d16, rm, t3]
  refine callFK_of c2 (by simp [toD_rawc, raw_v]) ?_
  simp [k2, setOb, List.filter_cons, e16, l16, d16, rm, t3]
  rw [wrap64 (by omega) (by omega)]
  refine ⟨i + 1, h1, by dsimp only; omega, ?_⟩
  refine weak_obs ?_ (by simp) (by repeat (first | exact sin_empty | refine sin_set (by simp) ?_)) (fun p hp r hr y hy => inX _ p hp r hr y hy _)
  repeat (first | exact sub_empty | refine sub_set (by simp) ?_)
 have hil : i = L.length := by omega
 subst hil
 rw [List.take_length, hone]
 simp [h1, setOb, List.filter_cons, t3]
 refine callFK_of ratio_One (by simp) ?_
 simp [ratV, raw_v]
 have f1 : Fits (1 : Rat) (2 ^ 33) := fits_one.mono (by omega)
 refine callFK_of (ratio_Same (rawOf_ok f1) (rawOf_ok f1)) (by simp [toD_rawc, raw_v]) ?_
 simp
 refine callFK_of law04_awake (by simp) ?_
 simp
end Go.Proofs.YtmjgehbpcchjpaaGreatDoor
