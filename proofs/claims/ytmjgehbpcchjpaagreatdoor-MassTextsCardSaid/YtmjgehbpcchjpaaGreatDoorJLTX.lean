/- MassTexts, over data. -/
import Derived.Test.YtmjgehbpcchjpaaGreatDoorIM
import Derived.Test.YtmjgehbpcchjpaaGreatDoorIE
import Derived.Test.YtmjgehbpcchjpaaGreatDoorHW
namespace Go.Proofs.YtmjgehbpcchjpaaGreatDoor.F
open Go Go.Proofs Go.Proofs.YtmjgehbpcchjpaaGreatDoor.E Go.Proofs.YtmjgehbpcchjpaaGreatDoor.Q
abbrev law04_MassTexts : Nat := 5
def law04_MassTexts_c : MFn := ⟨28,(.seq (r [o 2 (.box (.t 0)),o 3 (.box (.t 1)),o 4 (.mv (.c (.bool false)))] [2,3]) (.seq (.seq (r [o 5 (.ld (some 16) (.t 2)),o 6 (.ld (some 16) (.t 3)),o 7 (.buildSl 16 2 zM [(0,(.t 5)),(1,(.t 6))]),o 8 (.call 14 [(.t 7)]),o 9 (.un .not (.t 8))] [2,3,9]) (.cond (.t 9) (.seq (r [o 10 (.call 16 []),o 4 (.mv (.t 10))] [4]) .ret) .skip)) (.seq (r [o 11 (.ld (some 16) (.t 2)),o 12 (.ld (some 16) (.t 3)),o 13 (.callF 31 [(.t 11),(.t 12)]),o 14 (.ld (some 16) (.t 2)),o 15 (.ld (some 16) (.t 3)),o 16 (.callF 32 [(.t 14),(.t 15)]),o 17 (.binB .eql (.t 13) (.t 16)),o 18 (.mv (.t 17)),y 19 18 (.ld (some 16) (.t 2)),y 20 18 (.callF 33 [(.t 19)]),y 21 18 (.ld (some 16) (.t 2)),y 22 18 (.callF 34 [(.t 21)]),y 23 18 (.binT .eql (.t 20) (.t 22)),o 24 (.pick (.t 18) (.t 23) (.c (.bool false))),o 25 (.mv (.t 24)),y 26 25 (.callF 16 []),o 27 (.pick (.t 25) (.t 26) (.c (.bool false))),o 4 (.mv (.t 27))] [4]) .ret))),[.t 4]⟩
theorem law04_MassTexts_ok : cFn Tryz.prog (kps [[2,3],[2,3,9],[4],[4]]) [] 5 = some law04_MassTexts_c := by kernel_rfl
end Go.Proofs.YtmjgehbpcchjpaaGreatDoor.F

namespace Go.Proofs.YtmjgehbpcchjpaaGreatDoor
open Go Go.Proofs Go.Proofs.YtmjgehbpcchjpaaGreatDoor.E
open Classical
set_option linter.unusedSimpArgs false
set_option linter.unusedVariables false
theorem mass_SameG {m n : Ms} {K : Nat} (hK : 1 ≤ K) (hb : K ≤ 1000000) (hm : m.Ok K) (hn : n.Ok K) (lm : m.parts.length ≤ 1000) (ln : n.parts.length ≤ 1000) : CallD Tryz.prog F.mass_Same [m.v, n.v] (· = .bool (decide (normM m = normM n))) := by
 refine callD_by F.mass_Same_ok ?_
 unfold F.mass_Same_c
 simp [setOb, List.filter_cons, msC, tailC]
 refine callK_of (weights_SameG hK hb hm hn lm ln) (by simp [msC, tailC]) ?_
 simp
set_option maxHeartbeats 8000000 in
theorem massTexts_law {l0 l1 : List V} (h0 : ∃ n, Typed Tryz.prog n T.mass l0) (h1 : ∃ n, Typed Tryz.prog n T.mass l1) : CallD Tryz.prog F.law04_MassTexts [.agg l0, .agg l1] (· = .bool true) := by
 obtain ⟨_, h0⟩ := h0
 obtain ⟨m, rfl, hm, lm⟩ := read_mass h0
 obtain ⟨_, h1⟩ := h1
 obtain ⟨n, rfl, hn, ln⟩ := read_mass h1
 refine callD_by F.law04_MassTexts_ok ?_
 unfold F.law04_MassTexts_c
 have e16 : ∀ m : Ms, List.take 16 (msC m) = msC m := fun m => by simp [msC, tailC]
 have l16 : ∀ m : Ms, (msC m).length = 16 := fun m => by simp [msC, tailC]
 have tD : ∀ (m : Ms) (σ : Sto) (n : Nat), mapO (toD σ (n + 1)) (msC m) = some (msC m) := fun m σ n => by simp [msC, tailC]
 have rm : ∀ (m : Ms) (σ : Sto) (n : Nat), (msC m).flatMap (rch σ n) = [] := fun m => rch_msC
 simp [setOb, List.filter_cons, e16, l16]
 have few := law04_Few (l := [m, n]) (by simp) (by simp; exact ⟨⟨hm, lm⟩, hn, ln⟩)
 simp at few
 refine callK_of few (by
  simp
  rw [toD_refM (k := 11) (es := 16) (st := .own) (l := [msC m, msC n]) (by simp [getOb, E.look]) (by simp) (by simp) (by simp; exact ⟨toD_msC _ _ _, toD_msC _ _ _⟩)]) ?_
 cases c1 : (fewM m && fewM n) with
 | false =>
   simp [setOb, List.filter_cons]
   refine callK_of law04_awake (by simp) ?_
   simp
 | true =>
 obtain ⟨c1, c2⟩ := (Bool.and_eq_true _ _).mp c1
 have sm := few_sml hm c1
 have sn := few_sml hn c2
 have tm : Txt m 6 := ⟨sm.ok, by omega, by omega, by have := sm.len; omega, sm.cnt⟩
 have tn : Txt n 6 := ⟨sn.ok, by omega, by omega, by have := sn.len; omega, sn.cnt⟩
 simp [e16, l16, setOb, List.filter_cons]
 refine callFK_of (mass_SameG (K := 6) (by omega) (by omega) sm.ok sn.ok tm.len tn.len) (by simp [tD, Ms.v]) ?_
 simp [e16, l16, rm, setOb, List.filter_cons]
 refine callFK_of (ref04_SameG (K := 6) (by omega) (by omega) sm.ok sn.ok tm.len tn.len sm.cnt sn.cnt) (by simp [tD, Ms.v]) ?_
 simp [e16, l16, rm, setOb, List.filter_cons]
 refine callFK_of (mass_Text tm) (by simp [tD, Ms.v]) ?_
 simp [e16, l16, rm, setOb, List.filter_cons]
 refine callFK_of (ref04_Text tm) (by simp [tD, Ms.v]) ?_
 simp [e16, l16, rm, setOb, List.filter_cons]
 refine callFK_of law04_awake (by simp) ?_
 simp
end Go.Proofs.YtmjgehbpcchjpaaGreatDoor
