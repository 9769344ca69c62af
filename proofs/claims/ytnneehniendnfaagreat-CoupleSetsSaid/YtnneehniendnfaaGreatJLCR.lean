/- CoupleRights, over data. -/
import Derived.Test.YtnneehniendnfaaGreatGQ
import Derived.Test.YtnneehniendnfaaGreatGR
/- Functions of the program, as the engine reads them; each is held against the translation. -/
namespace Go.Proofs.YtnneehniendnfaaGreat.F
open Go Go.Proofs Go.Proofs.YtnneehniendnfaaGreat.E
abbrev law35_of : Nat := 18
def law35_of_c : MFn :=
  ⟨19, (.seq (.region [⟨(some 2), .mv (.c (.nils)), none⟩] (some [0]))
  (.seq (.region [⟨(some 3), .mv (.c (.nils)), none⟩] (some [0, 3]))
  (.seq (.seq (.region [⟨(some 5), .mv (.t 0), none⟩,
    ⟨(some 6), .lenS (.t 5), none⟩,
    ⟨(some 7), .mv (.c (.int .i64 0)), none⟩] (some [0, 3, 6, 7]))
  (.block 0 (.loop (.seq (.region [⟨(some 8), .bin .lss (.t 7) (.t 6), none⟩] (some [0, 3, 6, 7, 8]))
      (.seq (.cond (.t 8)
        .skip
        (.exit 0))
      (.seq (.block 1 (.seq (.region [⟨(some 9), .mv (.t 7), none⟩,
          ⟨(some 4), .mv (.t 9), none⟩] (some [0, 3, 4, 6, 7]))
        (.region [⟨(some 10), .mv (.t 3), none⟩,
          ⟨(some 11), .mv (.t 0), none⟩,
          ⟨(some 12), .mv (.t 4), none⟩,
          ⟨(some 13), .ixA 5 (.t 11) (.t 12), none⟩,
          ⟨(some 14), .ld (some 5) (.t 13), none⟩,
          ⟨(some 15), .buildSl 5 1 [.int .i64 0, .int .i64 0, .bool false, .nils, .nils] [(0, (.t 14))], none⟩,
          ⟨(some 16), .app 5 72 (.t 10) (.t 15), none⟩,
          ⟨(some 3), .mv (.t 16), none⟩] (some [0, 3, 6, 7]))))
      (.region [⟨(some 17), .bin .add (.t 7) (.c (.int .i64 1)), none⟩,
        ⟨(some 7), .mv (.t 17), none⟩] (some [0, 3, 6, 7]))))))))
  (.seq (.region [⟨(some 18), .mv (.t 3), none⟩,
    ⟨(some 2), .mv (.t 18), none⟩] (some [2]))
  .ret)))), [.t 2]⟩
theorem law35_of_ok : cFn Tryz.prog (kps [[0], [0, 3], [0, 3, 6, 7], [0, 3, 6, 7, 8], [0, 3, 4, 6, 7], [0, 3, 6, 7], [0, 3, 6, 7], [2]]) [] 18 = some law35_of_c := by kernel_rfl
abbrev law35_CoupleRights : Nat := 3
def law35_CoupleRights_c : MFn :=
  ⟨40, (.seq (.region [⟨(some 6), .mv (.c (.bool false)), none⟩] (some [0, 1, 2]))
  (.seq (.seq (.region [⟨(some 7), .mv (.t 0), none⟩,
    ⟨(some 8), .call 12 [(.t 7)], none⟩,
    ⟨(some 9), .un .not (.t 8), none⟩,
    ⟨(some 10), .mv (.t 9), none⟩,
    ⟨(some 11), .mv (.t 1), (some (10, false))⟩,
    ⟨(some 12), .call 12 [(.t 11)], (some (10, false))⟩,
    ⟨(some 13), .un .not (.t 12), (some (10, false))⟩,
    ⟨(some 14), .pick (.t 10) (.c (.bool true)) (.t 13), none⟩,
    ⟨(some 15), .mv (.t 14), none⟩,
    ⟨(some 16), .mv (.t 2), (some (15, false))⟩,
    ⟨(some 17), .call 13 [(.t 16)], (some (15, false))⟩,
    ⟨(some 18), .un .not (.t 17), (some (15, false))⟩,
    ⟨(some 19), .pick (.t 15) (.c (.bool true)) (.t 18), none⟩] (some [0, 1, 2, 19]))
  (.cond (.t 19)
    (.seq (.region [⟨(some 6), .mv (.c (.bool true)), none⟩] (some [6]))
    .ret)
    .skip))
  (.seq (.region [⟨(some 20), .mv (.t 0), none⟩,
    ⟨(some 21), .call 14 [(.t 20)], none⟩,
    ⟨(some 22), .mv (.t 0), none⟩,
    ⟨(some 23), .call 15 [(.t 22)], none⟩,
    ⟨(some 24), .binB .eql (.t 21) (.t 23), none⟩,
    ⟨(some 25), .mv (.t 24), none⟩,
    ⟨(some 26), .mv (.t 0), (some (25, true))⟩,
    ⟨(some 27), .mv (.t 1), (some (25, true))⟩,
    ⟨(some 28), .mv (.t 2), (some (25, true))⟩,
    ⟨(some 29), .call 16 [(.t 26), (.t 27), (.t 28)], (some (25, true))⟩,
    ⟨(some 30), .mv (.t 0), (some (25, true))⟩,
    ⟨(some 31), .mv (.t 1), (some (25, true))⟩,
    ⟨(some 32), .mv (.t 2), (some (25, true))⟩,
    ⟨(some 33), .call 18 [(.t 32)], (some (25, true))⟩,
    ⟨(some 34), .call 17 [(.t 30), (.t 31), (.t 33)], (some (25, true))⟩,
    ⟨(some 35), .binB .eql (.t 29) (.t 34), (some (25, true))⟩,
    ⟨(some 36), .pick (.t 25) (.t 35) (.c (.bool false)), none⟩,
    ⟨(some 37), .mv (.t 36), none⟩,
    ⟨(some 38), .call 19 [], (some (37, true))⟩,
    ⟨(some 39), .pick (.t 37) (.t 38) (.c (.bool false)), none⟩,
    ⟨(some 6), .mv (.t 39), none⟩] (some [6]))
  .ret))), [.t 6]⟩
theorem law35_CoupleRights_ok : cFn Tryz.prog (kps [[0, 1, 2], [0, 1, 2, 19], [6], [6]]) [] 3 = some law35_CoupleRights_c := by kernel_rfl
end Go.Proofs.YtnneehniendnfaaGreat.F

namespace Go.Proofs.YtnneehniendnfaaGreat
open Go Go.Proofs Go.Proofs.YtnneehniendnfaaGreat.E
set_option linter.unusedSimpArgs false
set_option linter.unusedVariables false

theorem law35_of {l : List Pr} (hl : l.length ≤ 1000000) : CallD Tryz.prog F.law35_of [prl l] (· = prl l) := by
  refine callD_by F.law35_of_ok ?_
  unfold F.law35_of_c
  simp [setOb, List.filter_cons]
  refine wm_loop (fun g : Nat × Nat => ((((Sl.empty.set 7 (.int .i64 g.2)).set 6 (.int .i64 l.length)).set 3 (grown g.1 g.2)).set 0 (prl l), grownS g.1 5 g.2 ((l.map prC).take g.2)))
    (fun g => g.2 ≤ l.length) (fun g => l.length - g.2) (0, 0) (by simp) ?_ ?_
  · refine weak_obs ?_ (by simp [grown_zero, grownS_zero]) (by repeat (first | exact sin_empty | refine sin_set (by simp [grown_zero]) ?_)) (by simp [grown_zero, grownS_zero])
    simp only [grown_zero]
    repeat (first | exact sub_empty | refine sub_set (by simp) ?_)
  rintro ⟨o, i⟩ hi
  dsimp only at hi
  have hw : ∀ n, ∀ r ∈ List.take n (l.map prC), ∀ y ∈ r, ∀ p : Nat → Bool, y.within p = true := fun n r hr y hy p => by
    obtain ⟨x, _, rfl⟩ := List.mem_map.1 (List.mem_of_mem_take hr)
    exact prC_within _ y hy
  by_cases h1 : i < l.length
  · have e1 : List.take (i + 1) (l.map prC) = List.take i (l.map prC) ++ [prC l[i]] := by
      rw [List.take_succ_eq_append_getElem (by simpa using h1)]; simp
    by_cases hi0 : i = 0
    · subst hi0
      simp at e1
      simp [h1, grown_zero, grownS_zero, setOb, List.filter_cons]
      rw [wrap64 (by omega) (by omega)]
      refine ⟨(1, 1), h1, by dsimp only; omega, ?_⟩
      refine weak_obs ?_ ?_ (by simp only [grown_pos (show 1 ≠ 0 by omega)]; repeat (first | exact sin_empty | refine sin_set (by simp [grownS_pos]) ?_)) ?_
      · simp only [grown_pos (show 1 ≠ 0 by omega)]
        repeat (first | exact sub_empty | refine sub_set (by simp) ?_)
      · simp [grownS_pos, e1]
      · simp only [grownS_pos (show 1 ≠ 0 by omega)]
        intro p hp r hr y hy
        simp at hp; subst hp
        exact hw _ r hr y hy _
    · simp (disch := omega) [h1, grown_pos hi0, grownS_pos hi0, setOb, List.filter_cons, Nat.max_eq_right, Nat.max_eq_left, if_neg, if_pos]
      rw [wrap64 (by omega) (by omega)]
      refine ⟨(o + 2, i + 1), h1, by dsimp only; omega, ?_⟩
      refine weak_obs ?_ ?_ (by simp only [grown_pos (show i + 1 ≠ 0 by omega)]; repeat (first | exact sin_empty | refine sin_set (by simp [grownS_pos]) ?_)) ?_
      · simp only [grown_pos (show i + 1 ≠ 0 by omega)]
        repeat (first | exact sub_empty | refine sub_set (by simp) ?_)
      · simp [grownS_pos, e1]
      · simp only [grownS_pos (show i + 1 ≠ 0 by omega)]
        intro p hp r hr y hy
        simp at hp; subst hp
        exact hw _ r hr y hy _
  · have hil : i = l.length := by omega
    subst hil
    have et : List.take l.length (l.map prC) = l.map prC := List.take_of_length_le (by simp)
    simp [h1, et]
    rw [toD_grown (k := 11) (st := .own) (es := 5) (l := l.map prC) (fun h0 => by rw [grownS_pos h0]; simp [E.look]) (by simp) (by simp) (by simp) (fun r hr => by obtain ⟨x, _, rfl⟩ := List.mem_map.1 hr; exact toD_prC _ _ _)]

theorem coupleRights_law {l0 l1 l2 : List (List V)} (h0 : ∃ n, Typed Tryz.prog n 22 [.dat l0]) (h1 : ∃ n, Typed Tryz.prog n 22 [.dat l1]) (h2 : ∃ n, Typed Tryz.prog n 23 [.dat l2]) : CallD Tryz.prog 3 [.dat l0, .dat l1, .dat l2] (· = .bool true) := by
  obtain ⟨a, rfl, la, ha⟩ := read_parts h0
  obtain ⟨b, rfl, lb, hb⟩ := read_parts h1
  obtain ⟨ps, rfl, lp, hp⟩ := read_pairs h2
  refine callD_by F.law35_CoupleRights_ok ?_
  unfold F.law35_CoupleRights_c
  simp
  refine callK_of (law35_Few la ha) (by simp) ?_
  cases fa : fewP a with
  | false => simp
  | true =>
  simp
  refine callK_of (law35_Few lb hb) (by simp) ?_
  cases fb : fewP b with
  | false => simp
  | true =>
  simp
  refine callK_of (law35_fewPairs lp (fun p h => (hp p h).1)) (by simp) ?_
  cases fp : fewQ ps with
  | false => simp
  | true =>
  obtain ⟨na, oa⟩ := fewP_ok fa ha
  obtain ⟨nb, ob⟩ := fewP_ok fb hb
  obtain ⟨np, op⟩ := fewQ_ok fp (fun p h => (hp p h).1)
  have oa' : ∀ p ∈ a, p.Ok 1000000 := fun p h => (oa p h).mono (by omega)
  have ob' : ∀ p ∈ b, p.Ok 1000000 := fun p h => (ob p h).mono (by omega)
  have op' : ∀ p ∈ ps, p.w.Ok 1000000 := fun p h => (op p h).mono (by omega)
  simp
  refine callK_of (couple_Right (by omega) oa') (by simp) ?_
  simp
  refine callK_of (ref35_Right (by omega) oa') (by simp) ?_
  simp
  refine callK_of (couple_Couples (by omega) (by omega) (by omega) oa' ob' op') (by simp) ?_
  simp
  refine callK_of (law35_of (l := ps) (by omega)) (by simp) ?_
  simp
  refine callK_of (ref35_Couples (by omega) (by omega) (by omega) oa' ob' op') (by simp) ?_
  simp
  refine callK_of law35_alive (by simp) ?_
  simp
end Go.Proofs.YtnneehniendnfaaGreat
