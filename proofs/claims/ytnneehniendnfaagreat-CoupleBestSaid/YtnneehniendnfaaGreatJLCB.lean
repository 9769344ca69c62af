/- CoupleBest, over data. -/
import Derived.Test.YtnneehniendnfaaGreatJLCR
import Derived.Test.YtnneehniendnfaaGreatGV
import Derived.Test.YtnneehniendnfaaGreatJDK
/- Functions of the program, as the engine reads them; each is held against the translation. -/
namespace Go.Proofs.YtnneehniendnfaaGreat.F
open Go Go.Proofs Go.Proofs.YtnneehniendnfaaGreat.E Go.Proofs.YtnneehniendnfaaGreat.Q
abbrev law35_same : Nat := 25
def law35_same_c : MFn :=
  ⟨55,(.seq (r [o 4 (.mv (.c (.bool false)))] [0,1]) (.seq (.seq (r [o 6 (.mv (.t 0)),o 7 (.lenS (.t 6)),o 8 (.mv (.t 1)),o 9 (.lenS (.t 8)),o 10 (.bin .neq (.t 7) (.t 9))] [0,1,10]) (.cond (.t 10)
  (.seq (r [o 4 (.mv (.c (.bool false)))] [4]) .ret) .skip)) (.seq (.seq (r [o 11 (.mv (.t 0)),o 12 (.lenS (.t 11)),o 13 (.mv (i 0))] [0,1,12,13]) (.block 0 (.loop (.seq (r [o 14 (.bin .lss (.t 13)
  (.t 12))] [0,1,12,13,14]) (.seq (.cond (.t 14) .skip (.exit 0)) (.seq (.block 1 (.seq (r [o 15 (.mv (.t 13)),o 5 (.mv (.t 15))] [0,1,5,12,13]) (.seq (r [o 16 (.mv (.t 0)),o 17 (.mv (.t 5)),
  o 18 (.ixA 5 (.t 16) (.t 17)),o 19 (.fA 0 (.t 18)),o 20 (.ld none (.t 19)),o 21 (.mv (.t 1)),o 22 (.mv (.t 5)),o 23 (.ixA 5 (.t 21) (.t 22)),o 24 (.fA 0 (.t 23)),o 25 (.ld none (.t 24)),
  o 26 (.bin .neq (.t 20) (.t 25)),o 27 (.mv (.t 26)),n 28 27 (.mv (.t 0)),n 29 27 (.mv (.t 5)),n 30 27 (.ixA 5 (.t 28) (.t 29)),n 31 27 (.fA 1 (.t 30)),n 32 27 (.ld none (.t 31)),
  n 33 27 (.mv (.t 1)),n 34 27 (.mv (.t 5)),n 35 27 (.ixA 5 (.t 33) (.t 34)),n 36 27 (.fA 1 (.t 35)),n 37 27 (.ld none (.t 36)),n 38 27 (.bin .neq (.t 32) (.t 37)),o 39 (.pick (.t 27)
  (.c (.bool true)) (.t 38)),o 40 (.mv (.t 39)),n 41 40 (.mv (.t 0)),n 42 40 (.mv (.t 5)),n 43 40 (.ixA 5 (.t 41) (.t 42)),n 44 40 (.fA 2 (.t 43)),n 45 40 (.ld (some 3) (.t 44)),n 46 40 (.mv (.t 1)),
  n 47 40 (.mv (.t 5)),n 48 40 (.ixA 5 (.t 46) (.t 47)),n 49 40 (.fA 2 (.t 48)),n 50 40 (.ld (some 3) (.t 49)),n 51 40 (.callF 24 [(.t 45),(.t 50)]),n 52 40 (.un .not (.t 51)),o 53 (.pick (.t 40)
  (.c (.bool true)) (.t 52))] [0,1,12,13,53]) (.cond (.t 53) (.seq (r [o 4 (.mv (.c (.bool false)))] [4]) .ret) .skip)))) (r [o 54 (.bin .add (.t 13) (i 1)),o 13 (.mv (.t 54))] [0,1,12,13])))))))
  (.seq (r [o 4 (.mv (.c (.bool true)))] [4]) .ret)))),[.t 4]⟩
theorem law35_same_ok : cFn Tryz.prog (kps [[0,1],[0,1,10],[4],[0,1,12,13],[0,1,12,13,14],[0,1,5,12,13],[0,1,12,13,53],[4],[0,1,12,13],[4]]) [] 25 = some law35_same_c := by kernel_rfl
abbrev law35_CoupleBest : Nat := 4
def law35_CoupleBest_c : MFn :=
  ⟨66,(.seq (r [o 4 (.mv (.c (.bool false)))] [0,1]) (.seq (.seq (r [o 13 (.mv (.t 0)),o 14 (.call 12 [(.t 13)]),o 15 (.un .not (.t 14)),o 16 (.mv (.t 15)),n 17 16 (.mv (.t 1)),
  n 18 16 (.call 12 [(.t 17)]),n 19 16 (.un .not (.t 18)),o 20 (.pick (.t 16) (.c (.bool true)) (.t 19))] [0,1,20]) (.cond (.t 20) (.seq (r [o 4 (.mv (.c (.bool true)))] [4]) .ret) .skip))
  (.seq (r [o 22 (.mv (.t 0)),o 23 (.mv (.t 1)),o 24 (.call 20 [(.t 22),(.t 23)]),o 21 (.mv (.t 24)),o 25 (.ext (.t 21) 0),o 26 (.ext (.t 21) 1),o 5 (.alloc [.bool false,.nils,.nils]),z (.st 3 (.t 5)
  (.t 25)),o 6 (.mv (.t 26))] [0,1,5,6]) (.seq (r [o 28 (.mv (.t 0)),o 29 (.mv (.t 1)),o 30 (.call 21 [(.t 28),(.t 29)]),o 27 (.mv (.t 30)),o 31 (.ext (.t 27) 0),o 32 (.ext (.t 27) 1),
  o 7 (.alloc [.bool false,.nils,.nils]),z (.st 3 (.t 7) (.t 31)),o 8 (.mv (.t 32))] [0,1,5,6,7,8]) (.seq (r [o 34 (.mv (.t 0)),o 35 (.mv (.t 1)),o 36 (.call 22 [(.t 34),(.t 35)]),o 33 (.mv (.t 36)),
  o 37 (.ext (.t 33) 0),o 38 (.ext (.t 33) 1),o 9 (.mv (.t 37)),o 10 (.mv (.t 38))] [0,1,5,6,7,8,9,10]) (.seq (r [o 40 (.mv (.t 0)),o 41 (.mv (.t 1)),o 42 (.call 23 [(.t 40),(.t 41)]),
  o 39 (.mv (.t 42)),o 43 (.ext (.t 39) 0),o 44 (.ext (.t 39) 1),o 11 (.mv (.t 43)),o 12 (.mv (.t 44))] [5,6,7,8,9,10,11,12]) (.seq (r [o 45 (.mv (.t 6)),o 46 (.mv (.t 8)),o 47 (.bin .eql (.t 45)
  (.t 46)),o 48 (.mv (.t 47)),y 49 48 (.ld (some 3) (.t 5)),y 50 48 (.ld (some 3) (.t 7)),y 51 48 (.call 24 [(.t 49),(.t 50)]),o 52 (.pick (.t 48) (.t 51) (.c (.bool false))),o 53 (.mv (.t 52)),
  y 54 53 (.mv (.t 10)),y 55 53 (.mv (.t 12)),y 56 53 (.bin .eql (.t 54) (.t 55)),o 57 (.pick (.t 53) (.t 56) (.c (.bool false))),o 58 (.mv (.t 57)),y 59 58 (.mv (.t 9)),y 60 58 (.mv (.t 11)),
  y 61 58 (.call 25 [(.t 59),(.t 60)]),o 62 (.pick (.t 58) (.t 61) (.c (.bool false))),o 63 (.mv (.t 62)),y 64 63 (.call 19 []),o 65 (.pick (.t 63) (.t 64) (.c (.bool false))),o 4 (.mv (.t 65))] [4])
  .ret))))))),[.t 4]⟩
theorem law35_CoupleBest_ok : cFn Tryz.prog (kps [[0,1],[0,1,20],[4],[0,1,5,6],[0,1,5,6,7,8],[0,1,5,6,7,8,9,10],[5,6,7,8,9,10,11,12],[4]]) [] 4 = some law35_CoupleBest_c := by kernel_rfl
end Go.Proofs.YtnneehniendnfaaGreat.F

namespace Go.Proofs.YtnneehniendnfaaGreat
open Go Go.Proofs Go.Proofs.YtnneehniendnfaaGreat.E
set_option linter.unusedSimpArgs false
set_option linter.unusedVariables false
theorem val_fits {l : List Pq} (hl : l.length ≤ 20) (hf : ∀ p ∈ l, Fits p.q 4194304) (A B : Int) : Fits (valA l A B) (2 ^ 30) := by
  refine (sumBy_fits (k := 4194304) _ fun p hp => ?_).mono ?_
  · split
    · exact hf p hp
    · exact fits_zero.mono (by omega)
  · have : l.length * (4194304 + 1) ≤ 20 * 4194305 := Nat.mul_le_mul_right _ hl
    omega
theorem c_get1 (p : Pq) (h : 1 < p.c.length) : p.c[1]'h = .int .i64 p.B := (rfl)
theorem c_get0 (p : Pq) (h : 0 < p.c.length) : p.c[0]'h = .int .i64 p.A := (rfl)
theorem law35_same {L : List Pq} (hl : L.length ≤ 1000000) (hf : ∀ p ∈ L, Fits p.q (2 ^ 30)) : CallD Tryz.prog F.law35_same [.dat (L.map Pq.c), .dat (L.map Pq.c)] (· = .bool true) := by
  refine callD_by F.law35_same_ok ?_
  unfold F.law35_same_c
  simp
  refine wm_loop (fun g : Nat => ((((Sl.empty.set 13 (.int .i64 g)).set 12 (.int .i64 L.length)).set 1 (.dat (L.map Pq.c))).set 0 (.dat (L.map Pq.c)), [])) (fun g => g ≤ L.length) (fun g => L.length - g) 0 (by omega) ?_ ?_
  · exact weak_p (by repeat (first | exact sub_empty | refine sub_set (by simp) ?_)) (by repeat (first | exact sin_empty | refine sin_set (by simp) ?_))
  intro i hi
  by_cases h1 : i < L.length
  · have ok : (rawOf L[i].q).Ok (2 ^ 31) := rawOf_ok ((hf _ (List.getElem_mem h1)).mono (by omega))
    simp [h1, c_get1, c_get0]
    refine callFK_of (ref02_Same ok ok) (by simp [toD_rawc, raw_v, pr_w]) ?_
    simp
    rw [wrap64 (by omega) (by omega)]
    refine ⟨i + 1, h1, by dsimp only; omega, ?_⟩
    exact weak_p (by repeat (first | exact sub_empty | refine sub_set (by simp) ?_)) (by repeat (first | exact sin_empty | refine sin_set (by simp) ?_))
  · simp [h1]
theorem coupleBest_law {l0 l1 : List (List V)} (h0 : ∃ n, Typed Tryz.prog n 22 [.dat l0]) (h1 : ∃ n, Typed Tryz.prog n 22 [.dat l1]) : CallD Tryz.prog 4 [.dat l0, .dat l1] (· = .bool true) := by
  obtain ⟨a, rfl, la, ha⟩ := read_parts h0
  obtain ⟨b, rfl, lb, hb⟩ := read_parts h1
  refine callD_by F.law35_CoupleBest_ok ?_
  unfold F.law35_CoupleBest_c
  simp
  refine callK_of (law35_Few la ha) (by simp) ?_
  cases fa : fewP a with
  | false => simp
  | true =>
  simp
  refine callK_of (law35_Few lb hb) (by simp) ?_
  cases fb : fewP b with
  | false => simp
  | true =>
  obtain ⟨na, oa3⟩ := fewP_ok fa ha
  obtain ⟨nb, ob3⟩ := fewP_ok fb hb
  have oa : ∀ p ∈ a, p.Ok 1000000 := fun p h => (oa3 p h).mono (by omega)
  have ob : ∀ p ∈ b, p.Ok 1000000 := fun p h => (ob3 p h).mono (by omega)
  simp
  refine callK_of (couple_Apart (by omega) (by omega) oa ob) (by simp) ?_
  by_cases hr : rightP a = true ∧ rightP b = true
  · obtain ⟨hra, hrb⟩ := hr
    rw [apartV_good hra hrb]
    simp [setOb, List.filter_cons, ratV, raw_v]
    refine callK_of (ref35_Apart (by omega) (by omega) oa ob) (by simp) ?_
    rw [apartV_good hra hrb]
    simp [setOb, List.filter_cons, ratV, raw_v]
    refine callK_rel (couple_Best na nb oa3 ob3) (by simp) ?_
    intro r hr
    rw [bestR_good hra hrb] at hr
    obtain ⟨G, rfl, g1, g2, g3, g4⟩ := hr
    simp
    refine callK_rel (ref35_Best na nb oa3 ob3) (by simp) ?_
    intro r hr
    rw [bestR_good hra hrb] at hr
    obtain ⟨H, rfl, h1, h2, h3, _⟩ := hr
    have e : G = H := up_uniq g1 h1 g3 h3 fun A B => by rw [g2, h2]
    subst e
    have ga := good_of hra oa
    have gb := good_of hrb ob
    have ci := comm_inv ga gb na nb (fun p h => (oa3 p h).w) (fun p h => (ob3 p h).w) a.length (Nat.le_refl _)
    obtain ⟨f1, f2⟩ := gr_few _ (Nat.le_refl _) ci.rest (i := 0) (k := 0)
    have bl : (bestAll a b).length ≤ 20 := by unfold bestAll; rw [List.length_append]; exact f1
    have bf : ∀ p ∈ bestAll a b, Fits p.q 4194304 := fun p hp => by
      unfold bestAll at hp
      rcases List.mem_append.1 hp with hp | hp
      · exact (ci.pos p hp).2
      · exact (f2 p hp).2
    have gf : ∀ p ∈ G, Fits p.q (2 ^ 30) := fun p hp => by rw [← up_at g1 hp, g2]; exact val_fits bl bf _ _
    have fap : (rawOf (apartQ a b)).Ok (2 ^ 31) := by
      have := apart_fits ga gb (n := a.length)
      rw [List.take_length] at this
      exact rawOf_ok (Fits.mono this (by omega))
    have gl : G.length ≤ 1000000 := by omega
    simp
    refine callK_of (ref02_Same fap fap) (by simp [toD_rawc, raw_v]) ?_
    simp
    refine callK_of (law35_same gl gf) (by simp) ?_
    simp
    refine callK_of law35_alive (by simp) ?_
    simp
  · have ea : apartV a b = .tup [.agg [.bool false, .dat [], .dat []], .int .i64 1] := by
      unfold apartV; rw [if_neg]; simpa using hr
    have eb : ∀ r, bestR a b r → r = .tup [.dat [], .int .i64 1] := fun r h => by
      unfold bestR at h; rw [if_neg] at h
      · exact h
      · simpa using hr
    rw [ea]
    simp [setOb, List.filter_cons]
    refine callK_of (ref35_Apart (by omega) (by omega) oa ob) (by simp) ?_
    rw [ea]
    simp [setOb, List.filter_cons]
    refine callK_rel (couple_Best na nb oa3 ob3) (by simp) ?_
    intro r h
    rw [eb r h]
    simp
    refine callK_rel (ref35_Best na nb oa3 ob3) (by simp) ?_
    intro r h
    rw [eb r h]
    simp
    have f0 : (⟨false, [], []⟩ : Raw).Ok (2 ^ 31) := ⟨Dig.nil, Dig.nil, by simp, by simp⟩
    have e0 : (⟨false, [], []⟩ : Raw).v = .agg [.bool false, .dat [], .dat []] := rfl
    have s0 := ref02_Same f0 f0
    rw [e0] at s0
    refine callK_of s0 (by simp) ?_
    simp
    have s1 := law35_same (L := []) (by simp) (by simp)
    simp at s1
    refine callK_of s1 (by simp) ?_
    simp
    refine callK_of law35_alive (by simp) ?_
    simp
end Go.Proofs.YtnneehniendnfaaGreat
