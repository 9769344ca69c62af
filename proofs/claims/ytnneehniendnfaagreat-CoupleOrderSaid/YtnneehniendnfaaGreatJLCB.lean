/- CoupleBest, over data. -/
import Derived.Test.YtnneehniendnfaaGreatJLCR
import Derived.Test.YtnneehniendnfaaGreatGV
import Derived.Test.YtnneehniendnfaaGreatJDK
/- Functions of the program, as the engine reads them; each is held against the translation. -/
namespace Go.Proofs.YtnneehniendnfaaGreat.F
open Go Go.Proofs Go.Proofs.YtnneehniendnfaaGreat.E Go.Proofs.YtnneehniendnfaaGreat.Q
abbrev law35_same : Nat := 25
def law35_same_c : MFn :=
  ⟨55,(.seq (r [o 4 (.mv (.c (.bool false)))] [0,1]) (.seq (.seq (r [o 6 (.mv (.t 0)),o 7 (.lenS (.t 6)),o 8 (.mv (.t 1)),o 9 (.lenS (.t 8)),o 10 (.bin .neq (.t 7) (.t 9))] [0,1,10]) (.cond (.t 10)
  (.seq (r [o 4 (.mv (.c (.bool false)))] [4]) .ret) .skip)) (.seq (.seq (r [o 11 (.mv (.t 0)),o 12 (.lenS (.t 11)),o 13 (.mv (i 0))] [0,1,12,13]) (.block 0 (.loop (.seq (r [o 14 (.bin .lss (.t 13)
  (.t 12))] [0,1,12,13,14]) (.seq (.cond (.t 14) .skip (.exit 0)) (.seq (.block 1 (.seq (r [o 15 (.mv (.t 13)),o 5 (.mv (.t 15))] [0,1,5,12,13]) (.seq (r [o 16 (.mv (.t 0)),o 17 (.mv (.t 5)),
  o 18 (.ixA 5 (.t 16) (.t 17)),o 19 (.fA 0 (.t 18)),o 20 (.ld none (.t 19)),o 21 (.mv (.t 1)),o 22 (.mv (.t 5)),o 23 (.ixA 5 (.t 21) (.t 22)),o 24 (.fA 0 (.t 23)),o 25 (.ld none (.t 24)),
  o 26 (.bin .neq (.t 20) (.t 25)),o 27 (.mv (.t 26)),n 28 27 (.mv (.t 0)),n 29 27 (.mv (.t 5)),n 30 27 (.ixA 5 (.t 28) (.t 29)),n 31 27 (.fA 1 (.t 30)),n 32 27 (.ld none (.t 31)),
  n 33 27 (.mv (.t 1)),n 34 27 (.mv (.t 5)),n 35 27 (.ixA 5 (.t 33) (.t 34)),n 36 27 (.fA 1 (.t 35)),n 37 27 (.ld none (.t 36)),n 38 27 (.bin .neq (.t 32) (.t 37)),o 39 (.pick (.t 27)
  (.c (.bool true)) (.t 38)),o 40 (.mv (.t 39)),n 41 40 (.mv (.t 0)),n 42 40 (.mv (.t 5)),n 43 40 (.ixA 5 (.t 41) (.t 42)),n 44 40 (.fA 2 (.t 43)),n 45 40 (.ld (some 3) (.t 44)),n 46 40 (.mv (.t 1)),
  n 47 40 (.mv (.t 5)),n 48 40 (.ixA 5 (.t 46) (.t 47)),n 49 40 (.fA 2 (.t 48)),n 50 40 (.ld (some 3) (.t 49)),n 51 40 (.callF 24 [(.t 45),(.t 50)]),n 52 40 (.un .not (.t 51)),o 53 (.pick (.t 40)
  (.c (.bool true)) (.t 52))] [0,1,12,13,53]) (.cond (.t 53) (.seq (r [o 4 (.mv (.c (.bool false)))] [4]) .ret) .skip)))) (r [o 54 (.bin .add (.t 13) (i 1)),o 13 (.mv (.t 54))] [0,1,12,13])))))))
  (.seq (r [o 4 (.mv (.c (.bool true)))] [4]) .ret)))),[.t 4]⟩
theorem law35_same_ok : cFn Tryz.prog (kps [[0,1],[0,1,10],[4],[0,1,12,13],[0,1,12,13,14],[0,1,5,12,13],[0,1,12,13,53],[4],[0,1,12,13],[4]]) [] 25 = some law35_same_c := by kernel_rfl
end Go.Proofs.YtnneehniendnfaaGreat.F

namespace Go.Proofs.YtnneehniendnfaaGreat
open Go Go.Proofs Go.Proofs.YtnneehniendnfaaGreat.E
set_option linter.unusedSimpArgs false
set_option linter.unusedVariables false
theorem c_get1 (p : Pq) (h : 1 < p.c.length) : p.c[1]'h = .int .i64 p.B := (rfl)
theorem c_get0 (p : Pq) (h : 0 < p.c.length) : p.c[0]'h = .int .i64 p.A := (rfl)
theorem law35_same {L : List Pq} (hl : L.length ≤ 1000000) (hf : ∀ p ∈ L, Fits p.q (2 ^ 30)) : CallD Tryz.prog F.law35_same [.dat (L.map Pq.c), .dat (L.map Pq.c)] (· = .bool true) := by
  refine callD_by F.law35_same_ok ?_
  unfold F.law35_same_c
  simp
  refine wm_loop (fun g : Nat => ((((Sl.empty.set 13 (.int .i64 g)).set 12 (.int .i64 L.length)).set 1 (.dat (L.map Pq.c))).set 0 (.dat (L.map Pq.c)), [])) (fun g => g ≤ L.length) (fun g => L.length - g) 0 (by omega) ?_ ?_
  · exact weak_p (by repeat (first | exact sub_empty | refine sub_set (by simp) ?_)) (by repeat (first | exact sin_empty | refine sin_set (by simp) ?_))
  intro i hi
  by_cases h1 : i < L.length
  · have ok : (rawOf L[i].q).Ok (2 ^ 31) := rawOf_ok ((hf _ (List.getElem_mem h1)).mono (by omega))
    simp [h1, c_get1, c_get0]
    refine callFK_of (ref02_Same ok ok) (by simp [toD_rawc, raw_v, pr_w]) ?_
    simp
    rw [wrap64 (by omega) (by omega)]
    refine ⟨i + 1, h1, by dsimp only; omega, ?_⟩
    exact weak_p (by repeat (first | exact sub_empty | refine sub_set (by simp) ?_)) (by repeat (first | exact sin_empty | refine sin_set (by simp) ?_))
  · simp [h1]
end Go.Proofs.YtnneehniendnfaaGreat
