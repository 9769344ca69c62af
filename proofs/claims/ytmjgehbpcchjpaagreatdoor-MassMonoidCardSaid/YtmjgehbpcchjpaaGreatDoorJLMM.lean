/- MassMonoid, over data. -/
import Derived.Test.YtmjgehbpcchjpaaGreatDoorHX2
namespace Go.Proofs.YtmjgehbpcchjpaaGreatDoor.F
open Go Go.Proofs Go.Proofs.YtmjgehbpcchjpaaGreatDoor.E Go.Proofs.YtmjgehbpcchjpaaGreatDoor.Q
abbrev law04_MassMonoid : Nat := 7
def law04_MassMonoid_c : MFn := ⟨102,(.seq (r [o 3 (.box (.t 0)),o 4 (.box (.t 1)),o 5 (.box (.t 2)),o 6 (.mv (.c (.bool false)))] [3,4,5]) (.seq (.seq (r [o 10 (.ld (some 16) (.t 3)),o 11 (.ld (some 16) (.t 4)),o 12 (.ld (some 16) (.t 5)),o 13 (.buildSl 16 3 zM [(0,(.t 10)),(1,(.t 11)),(2,(.t 12))]),o 14 (.call 14 [(.t 13)]),o 15 (.un .not (.t 14))] [3,4,5,15]) (.cond (.t 15) (.seq (r [o 16 (.call 16 []),o 6 (.mv (.t 16))] [6]) .ret) .skip)) (.seq (r [o 17 (.ld (some 16) (.t 3)),o 18 (.ld (some 16) (.t 4)),o 19 (.call 20 [(.t 17),(.t 18)]),o 7 (.alloc zM),z (.st 16 (.t 7) (.t 19))] [3,4,5,7]) (.seq (.seq (r [o 20 (.ld (some 16) (.t 7)),o 21 (.ld (some 16) (.t 4)),o 22 (.ld (some 16) (.t 3)),o 23 (.callF 20 [(.t 21),(.t 22)]),o 24 (.callF 31 [(.t 20),(.t 23)]),o 25 (.un .not (.t 24)),o 26 (.mv (.t 25)),n 27 26 (.ld (some 16) (.t 7)),n 28 26 (.ld (some 16) (.t 5)),n 29 26 (.callF 20 [(.t 27),(.t 28)]),n 30 26 (.ld (some 16) (.t 3)),n 31 26 (.ld (some 16) (.t 4)),n 32 26 (.ld (some 16) (.t 5)),n 33 26 (.callF 20 [(.t 31),(.t 32)]),n 34 26 (.callF 20 [(.t 30),(.t 33)]),n 35 26 (.callF 31 [(.t 29),(.t 34)]),n 36 26 (.un .not (.t 35)),o 37 (.pick (.t 26) (.c (.bool true)) (.t 36)),o 38 (.mv (.t 37)),n 39 38 (.ld (some 16) (.t 3)),n 40 38 (.callF 38 []),n 41 38 (.callF 20 [(.t 39),(.t 40)]),n 42 38 (.ld (some 16) (.t 3)),n 43 38 (.callF 31 [(.t 41),(.t 42)]),n 44 38 (.un .not (.t 43)),o 45 (.pick (.t 38) (.c (.bool true)) (.t 44))] [3,4,7,45]) (.cond (.t 45) (.seq (r [o 6 (.mv (.c (.bool false)))] [6]) .ret) .skip)) (.seq (r [o 46 (.fA 4 (.t 3)),o 47 (.ld (some 3) (.t 46)),o 48 (.fA 1 (.t 4)),o 49 (.ld (some 3) (.t 48)),o 8 (.alloc zR),o 9 (.alloc zR),z (.stA 3 (.t 8) (.t 47) [48]),z (.st 3 (.t 9) (.t 49))] [3,4,7,8,9]) (.seq (.seq (r [o 50 (.ld (some 16) (.t 7)),o 51 (.ld (some 3) (.t 8)),o 52 (.callF 22 [(.t 50),(.t 51)]),o 53 (.ld (some 16) (.t 3)),o 54 (.ld (some 3) (.t 8)),o 55 (.callF 22 [(.t 53),(.t 54)]),o 56 (.ld (some 16) (.t 4)),o 57 (.ld (some 3) (.t 8)),o 58 (.callF 22 [(.t 56),(.t 57)]),o 59 (.callF 20 [(.t 55),(.t 58)]),o 60 (.callF 31 [(.t 52),(.t 59)]),o 61 (.un .not (.t 60)),o 62 (.mv (.t 61)),n 63 62 (.ld (some 16) (.t 3)),n 64 62 (.ld (some 3) (.t 8)),n 65 62 (.callF 22 [(.t 63),(.t 64)]),n 66 62 (.ld (some 3) (.t 9)),n 67 62 (.callF 22 [(.t 65),(.t 66)]),n 68 62 (.ld (some 16) (.t 3)),n 69 62 (.ld (some 3) (.t 8)),n 70 62 (.ld (some 3) (.t 9)),n 71 62 (.callF 39 [(.t 69),(.t 70)]),n 72 62 (.callF 22 [(.t 68),(.t 71)]),n 73 62 (.callF 31 [(.t 67),(.t 72)]),n 74 62 (.un .not (.t 73)),o 75 (.pick (.t 62) (.c (.bool true)) (.t 74))] [3,4,7,8,9,75]) (.cond (.t 75) (.seq (r [o 6 (.mv (.c (.bool false)))] [6]) .ret) .skip)) (.seq (r [o 76 (.ld (some 16) (.t 3)),o 77 (.ld (some 3) (.t 8)),o 78 (.ld (some 3) (.t 9)),o 79 (.callF 40 [(.t 77),(.t 78)]),o 80 (.callF 22 [(.t 76),(.t 79)]),o 81 (.ld (some 16) (.t 3)),o 82 (.ld (some 3) (.t 8)),o 83 (.callF 22 [(.t 81),(.t 82)]),o 84 (.ld (some 16) (.t 3)),o 85 (.ld (some 3) (.t 9)),o 86 (.callF 22 [(.t 84),(.t 85)]),o 87 (.callF 20 [(.t 83),(.t 86)]),o 88 (.callF 31 [(.t 80),(.t 87)]),o 89 (.mv (.t 88)),y 90 89 (.ld (some 16) (.t 7)),y 91 89 (.callF 42 [(.t 90)]),y 92 89 (.ld (some 16) (.t 3)),y 93 89 (.callF 42 [(.t 92)]),y 94 89 (.ld (some 16) (.t 4)),y 95 89 (.callF 42 [(.t 94)]),y 96 89 (.callF 40 [(.t 93),(.t 95)]),y 97 89 (.callF 41 [(.t 91),(.t 96)]),o 98 (.pick (.t 89) (.t 97) (.c (.bool false))),o 99 (.mv (.t 98)),y 100 99 (.callF 16 []),o 101 (.pick (.t 99) (.t 100) (.c (.bool false))),o 6 (.mv (.t 101))] [6]) .ret))))))),[.t 6]⟩
theorem law04_MassMonoid_ok : cFn Tryz.prog (kps [[3,4,5],[3,4,5,15],[6],[3,4,5,7],[3,4,7,45],[6],[3,4,7,8,9],[3,4,7,8,9,75],[6],[6]]) [] 7 = some law04_MassMonoid_c := by kernel_rfl
end Go.Proofs.YtmjgehbpcchjpaaGreatDoor.F

namespace Go.Proofs.YtmjgehbpcchjpaaGreatDoor
open Go Go.Proofs Go.Proofs.YtmjgehbpcchjpaaGreatDoor.E
set_option linter.unusedSimpArgs false
set_option linter.unusedVariables false
set_option maxHeartbeats 16000000 in
theorem massMonoid_law {l0 l1 l2 : List V} (h0 : ∃ n, Typed Tryz.prog n T.mass l0) (h1 : ∃ n, Typed Tryz.prog n T.mass l1) (h2 : ∃ n, Typed Tryz.prog n T.mass l2) : CallD Tryz.prog F.law04_MassMonoid [.agg l0, .agg l1, .agg l2] (· = .bool true) := by
 obtain ⟨_, h0⟩ := h0
 obtain ⟨_, h1⟩ := h1
 obtain ⟨_, h2⟩ := h2
 obtain ⟨a, rfl, ha, la⟩ := read_mass h0
 obtain ⟨b, rfl, hb, lb⟩ := read_mass h1
 obtain ⟨c, rfl, hc, lc⟩ := read_mass h2
 clear h0 h1 h2
 refine callD_by F.law04_MassMonoid_ok ?_
 unfold F.law04_MassMonoid_c
 have e16 : ∀ m : Ms, List.take 16 (msC m) = msC m := fun m => by simp [msC, tailC]
 have l16 : ∀ m : Ms, (msC m).length = 16 := fun m => by simp [msC, tailC]
 have d16 : ∀ m : Ms, List.drop 16 (msC m) = [] := fun m => by simp [msC, tailC]
 have rm : ∀ (m : Ms) (σ : Sto) (n : Nat), (msC m).flatMap (rch σ n) = [] := fun m => rch_msC
 simp [setOb, List.filter_cons, e16, l16]
 have few := law04_Few (l := [a, b, c]) (by simp) (by simp; exact ⟨⟨ha, la⟩, ⟨hb, lb⟩, ⟨hc, lc⟩⟩)
 simp at few
 refine callK_of few (by
  simp
  rw [toD_refM (k := 11) (es := 16) (st := .own) (l := [msC a, msC b, msC c]) (by simp [getOb, E.look]) (by simp) (by simp) (by simp; exact ⟨toD_msC _ _ _, toD_msC _ _ _, toD_msC _ _ _⟩)]) ?_
 cases c1 : (fewM a && (fewM b && fewM c)) with
 | false =>
   simp [setOb, List.filter_cons]
   refine callK_of law04_awake (by simp) ?_
   simp
 | true =>
 simp only [Bool.and_eq_true] at c1
 have sa := few_sml ha c1.1
 have sb := few_sml hb c1.2.1
 have sc := few_sml hc c1.2.2
 obtain ⟨kab, sab⟩ := sa.add sb (by omega) (by omega) (by omega) (by omega)
 obtain ⟨kba, sba⟩ := sb.add sa (by omega) (by omega) (by omega) (by omega)
 obtain ⟨kbc, sbc⟩ := sb.add sc (by omega) (by omega) (by omega) (by omega)
 obtain ⟨kan, san⟩ := sa.add (msN_sml.mono (Nat.le_refl _) (Nat.le_refl _)) (by omega) (by omega) (by omega) (by omega)
 obtain ⟨kabc, sabc⟩ := sab.add (sc.mono (by omega) (Nat.le_refl _)) (by omega) (by omega) (by omega) (by omega)
 obtain ⟨kabd, sabd⟩ := (sa.mono (show 6 ≤ 1121 + 13 by omega) (Nat.le_refl _)).add sbc (by omega) (by omega) (by omega) (by omega)
 simp [setOb, List.filter_cons, e16, l16, d16]
 refine callK_of kab (by simp [toD_msC]) ?_
 simp [setOb, List.filter_cons, e16, l16, d16, rm]
 refine callFK_of kba (by simp [toD_msC]) ?_
 simp [setOb, List.filter_cons, e16, l16, d16, rm]
 refine callFK_of (sab.same sba (by omega) (by omega) (by omega) (by omega) (same_swap a b)) (by simp [toD_msC]) ?_
 simp [setOb, List.filter_cons, e16, l16, d16, rm]
 refine callFK_of kabc (by simp [toD_msC]) ?_
 simp [setOb, List.filter_cons, e16, l16, d16, rm]
 refine callFK_of kbc (by simp [toD_msC]) ?_
 simp [setOb, List.filter_cons, e16, l16, d16, rm]
 refine callFK_of kabd (by simp [toD_msC]) ?_
 simp [setOb, List.filter_cons, e16, l16, d16, rm]
 refine callFK_of (sabc.same sabd (by omega) (by omega) (by omega) (by omega) (same_assoc a b c)) (by simp [toD_msC]) ?_
 simp [setOb, List.filter_cons, e16, l16, d16, rm]
 refine callFK_of mass_None (by simp) ?_
 simp [setOb, List.filter_cons, e16, l16, d16, rm]
 refine callFK_of kan (by simp [toD_msC]) ?_
 simp [setOb, List.filter_cons, e16, l16, d16, rm]
 refine callFK_of (san.same (sa.mono (by omega) (Nat.le_refl _)) (by omega) (by omega) (by omega) (by omega) (same_none a)) (by simp [toD_msC]) ?_
 have lo3 : ∀ m : Ms, List.take 3 (List.drop 4 (msC m)) = m.lo.c := fun m => by simp [msC, tailC, Raw.c]
 have rf3 : ∀ m : Ms, List.take 3 (msC m).tail = m.rf.c := fun m => by simp [msC, tailC, Raw.c]
 have t3 : ∀ x : Raw, List.take 3 x.c = x.c := fun x => by simp [Raw.c]
 have okw := sa.ok.lo
 have okv := sb.ok.rf
 have mulO : (rawOf (a.lo.q * b.rf.q)).Ok 12 := rawOf_ok ((fits_muls (Raw.fits okw (by omega)) (Raw.fits okv (by omega)) (by omega)).mono (by omega))
 have addO : (rawOf (a.lo.q + b.rf.q)).Ok 13 := rawOf_ok ((fits_add (Raw.fits okw (by omega)) (Raw.fits okv (by omega))).mono (by omega))
 obtain ⟨ksw, ssw⟩ := sab.scl (w := a.lo) (rok okw (by omega)) (by omega) (by omega) (by omega)
 obtain ⟨kaw, saw⟩ := sa.scl (w := a.lo) okw (by omega) (by omega) (by omega)
 obtain ⟨kbw, sbw⟩ := sb.scl (w := a.lo) okw (by omega) (by omega) (by omega)
 obtain ⟨kav, sav⟩ := sa.scl (w := b.rf) okv (by omega) (by omega) (by omega)
 obtain ⟨kawv, sawv⟩ := saw.scl (w := b.rf) (rok okv (by omega)) (by omega) (by omega) (by omega)
 obtain ⟨kam, sam⟩ := (sa.mono (show 6 ≤ 13 by omega) (Nat.le_refl _)).scl (w := rawOf (a.lo.q * b.rf.q)) (rok mulO (by omega)) (by omega) (by omega) (by omega)
 obtain ⟨kaa, saa⟩ := (sa.mono (show 6 ≤ 13 by omega) (Nat.le_refl _)).scl (w := rawOf (a.lo.q + b.rf.q)) addO (by omega) (by omega) (by omega)
 obtain ⟨k1, s1⟩ := saw.add sbw (by omega) (by omega) (by omega) (by omega)
 obtain ⟨k2, s2⟩ := saw.add sav (by omega) (by omega) (by omega) (by omega)
 rw [rawOf_q] at kam kaa sam saa
 simp [setOb, List.filter_cons, e16, l16, d16, rm, offs, V.off, lo3, rf3, t3]
 refine callFK_of ksw (by simp [toD_msC, toD_rawc]) ?_
 simp [setOb, List.filter_cons, e16, l16, d16, rm, t3]
 refine callFK_of kaw (by simp [toD_msC, toD_rawc]) ?_
 simp [setOb, List.filter_cons, e16, l16, d16, rm, t3]
 refine callFK_of kbw (by simp [toD_msC, toD_rawc]) ?_
 simp [setOb, List.filter_cons, e16, l16, d16, rm, t3]
 refine callFK_of k1 (by simp [toD_msC, toD_rawc]) ?_
 simp [setOb, List.filter_cons, e16, l16, d16, rm, t3]
 refine callFK_of ((ssw.mono (show _ ≤ 400000 by omega) (Nat.le_refl _)).same (s1.mono (by omega) (Nat.le_refl _)) (by omega) (by omega) (by omega) (by omega) (same_distr a b a.lo.q)) (by simp [toD_msC]) ?_
 simp [setOb, List.filter_cons, e16, l16, d16, rm, t3]
 refine callFK_of kaw (by simp [toD_msC, toD_rawc]) ?_
 simp [setOb, List.filter_cons, e16, l16, d16, rm, t3]
 refine callFK_of kawv (by simp [toD_msC, toD_rawc]) ?_
 simp [setOb, List.filter_cons, e16, l16, d16, rm, t3]
 refine callFK_of (ratio_Mul (rok okw (by omega)) (rok okv (by omega))) (by simp [toD_rawc, raw_v]) ?_
 simp [ratV, raw_v, setOb, List.filter_cons, e16, l16, d16, rm, t3]
 refine callFK_of kam (by simp [toD_msC, toD_rawc]) ?_
 simp [setOb, List.filter_cons, e16, l16, d16, rm, t3]
 refine callFK_of ((sawv.mono (show _ ≤ 400000 by omega) (Nat.le_refl _)).same (sam.mono (by omega) (Nat.le_refl _)) (by omega) (by omega) (by omega) (by omega) (same_twice a a.lo.q b.rf.q)) (by simp [toD_msC]) ?_
 simp [setOb, List.filter_cons, e16, l16, d16, rm, t3]
 refine callFK_of (ratio_Add (rok okw (by omega)) (rok okv (by omega))) (by simp [toD_rawc, raw_v]) ?_
 simp [ratV, raw_v, setOb, List.filter_cons, e16, l16, d16, rm, t3]
 refine callFK_of kaa (by simp [toD_msC, toD_rawc]) ?_
 simp [setOb, List.filter_cons, e16, l16, d16, rm, t3]
 refine callFK_of kaw (by simp [toD_msC, toD_rawc]) ?_
 simp [setOb, List.filter_cons, e16, l16, d16, rm, t3]
 refine callFK_of kav (by simp [toD_msC, toD_rawc]) ?_
 simp [setOb, List.filter_cons, e16, l16, d16, rm, t3]
 refine callFK_of k2 (by simp [toD_msC, toD_rawc]) ?_
 simp [setOb, List.filter_cons, e16, l16, d16, rm, t3]
 refine callFK_of ((saa.mono (show _ ≤ 400000 by omega) (Nat.le_refl _)).same (s2.mono (by omega) (Nat.le_refl _)) (by omega) (by omega) (by omega) (by omega) (same_factors a a.lo.q b.rf.q)) (by simp [toD_msC]) ?_
 simp [setOb, List.filter_cons, e16, l16, d16, rm, t3]
 refine callFK_of (sab.tot (by omega) (by omega) (by omega)) (by simp [toD_msC]) ?_
 simp [setOb, List.filter_cons, e16, l16, d16, rm, t3]
 refine callFK_of (sa.tot (by omega) (by omega) (by omega)) (by simp [toD_msC]) ?_
 simp [setOb, List.filter_cons, e16, l16, d16, rm, t3]
 refine callFK_of (sb.tot (by omega) (by omega) (by omega)) (by simp [toD_msC]) ?_
 simp [setOb, List.filter_cons, e16, l16, d16, rm, t3]
 have fa := totQ_fits sa (by omega)
 have fb := totQ_fits sb (by omega)
 refine callFK_of (ratio_Add (rawOf_ok (fa.mono (by omega))) (rawOf_ok (fb.mono (by omega)))) (by simp [toD_rawc, raw_v]) ?_
 rw [rawOf_q, rawOf_q, ← totQ_addM, ← totQ_normM (addM a b)]
 simp [ratV, raw_v, setOb, List.filter_cons, e16, l16, d16, rm, t3]
 have ft := totQ_fits sab (by omega)
 refine callFK_of (ratio_Same (rawOf_ok (ft.mono (by omega))) (rawOf_ok (ft.mono (by omega)))) (by simp [toD_rawc, raw_v]) ?_
 simp [setOb, List.filter_cons, e16, l16, d16, rm, t3]
 refine callFK_of law04_awake (by simp) ?_
 simp
end Go.Proofs.YtmjgehbpcchjpaaGreatDoor
