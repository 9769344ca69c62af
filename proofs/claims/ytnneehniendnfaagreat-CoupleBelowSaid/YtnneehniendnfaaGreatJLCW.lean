/- CoupleBelow, over data. -/
import Derived.Test.YtnneehniendnfaaGreatJLCB
import Derived.Test.YtnneehniendnfaaGreatGX
/- Functions of the program, as the engine reads them; each is held against the translation. -/
namespace Go.Proofs.YtnneehniendnfaaGreat.F
open Go Go.Proofs Go.Proofs.YtnneehniendnfaaGreat.E Go.Proofs.YtnneehniendnfaaGreat.Q
abbrev law35_CoupleBelow : Nat := 8
def law35_CoupleBelow_c : MFn :=
  ⟨49,(.seq (r [o 4 (.mv (.c (.bool false)))] [0,1]) (.seq (.seq (r [o 11 (.mv (.t 0)),o 12 (.call 12 [(.t 11)]),o 13 (.un .not (.t 12)),o 14 (.mv (.t 13)),n 15 14 (.mv (.t 1)),
  n 16 14 (.call 12 [(.t 15)]),n 17 14 (.un .not (.t 16)),o 18 (.pick (.t 14) (.c (.bool true)) (.t 17))] [0,1,18]) (.cond (.t 18) (.seq (r [o 4 (.mv (.c (.bool true)))] [4]) .ret) .skip))
  (.seq (r [o 20 (.mv (.t 0)),o 21 (.mv (.t 1)),o 22 (.call 35 [(.t 20),(.t 21)]),o 19 (.mv (.t 22)),o 23 (.ext (.t 19) 0),o 24 (.ext (.t 19) 1),o 25 (.ext (.t 19) 2),o 5 (.mv (.t 23)),
  o 6 (.mv (.t 24)),o 7 (.mv (.t 25))] [0,1,5,6,7]) (.seq (r [o 27 (.mv (.t 0)),o 28 (.mv (.t 1)),o 29 (.call 36 [(.t 27),(.t 28)]),o 26 (.mv (.t 29)),o 30 (.ext (.t 26) 0),o 31 (.ext (.t 26) 1),
  o 32 (.ext (.t 26) 2),o 8 (.mv (.t 30)),o 9 (.mv (.t 31)),o 10 (.mv (.t 32))] [5,6,7,8,9,10]) (.seq (r [o 33 (.mv (.t 7)),o 34 (.mv (.t 10)),o 35 (.bin .eql (.t 33) (.t 34)),o 36 (.mv (.t 35)),
  y 37 36 (.mv (.t 6)),y 38 36 (.mv (.t 9)),y 39 36 (.bin .eql (.t 37) (.t 38)),o 40 (.pick (.t 36) (.t 39) (.c (.bool false))),o 41 (.mv (.t 40)),y 42 41 (.mv (.t 5)),y 43 41 (.mv (.t 8)),
  y 44 41 (.call 25 [(.t 42),(.t 43)]),o 45 (.pick (.t 41) (.t 44) (.c (.bool false))),o 46 (.mv (.t 45)),y 47 46 (.call 19 []),o 48 (.pick (.t 46) (.t 47) (.c (.bool false))),o 4 (.mv (.t 48))] [4])
  .ret))))),[.t 4]⟩
theorem law35_CoupleBelow_ok : cFn Tryz.prog (kps [[0,1],[0,1,18],[4],[0,1,5,6,7],[5,6,7,8,9,10],[4]]) [] 8 = some law35_CoupleBelow_c := by kernel_rfl
end Go.Proofs.YtnneehniendnfaaGreat.F

namespace Go.Proofs.YtnneehniendnfaaGreat
open Go Go.Proofs Go.Proofs.YtnneehniendnfaaGreat.E
set_option linter.unusedSimpArgs false
set_option linter.unusedVariables false
theorem gr_facts {a b : List Part} (ga : Good a) (gb : Good b) (na : a.length ≤ 10) (nb : b.length ≤ 10) (oa : ∀ p ∈ a, p.w.Ok 3) (ob : ∀ p ∈ b, p.w.Ok 3) :
    (gr (a.map (·.w.q)) (b.map (·.w.q)) 0 0).length ≤ 20 ∧ ∀ p ∈ gr (a.map (·.w.q)) (b.map (·.w.q)) 0 0, 0 < p.q ∧ Fits p.q 4194304 := by
  have hrest := (comm_inv ga gb na nb oa ob 0 (Nat.zero_le _)).rest
  have e0 : commS a b 0 = ([], a.map (·.w.q), b.map (·.w.q)) := rfl
  rw [e0] at hrest
  obtain ⟨f1, f2⟩ := gr_few _ (Nat.le_refl _) hrest (i := 0) (k := 0)
  exact ⟨by simpa using f1, f2⟩
theorem coupleBelow_law {l0 l1 : List (List V)} (h0 : ∃ n, Typed Tryz.prog n 22 [.dat l0]) (h1 : ∃ n, Typed Tryz.prog n 22 [.dat l1]) : CallD Tryz.prog F.law35_CoupleBelow [.dat l0, .dat l1] (· = .bool true) := by
  obtain ⟨a, rfl, la, ha⟩ := read_parts h0
  obtain ⟨b, rfl, lb, hb⟩ := read_parts h1
  refine callD_by F.law35_CoupleBelow_ok ?_
  unfold F.law35_CoupleBelow_c
  simp
  refine callK_of (law35_Few la ha) (by simp) ?_
  cases fa : fewP a with
  | false => simp
  | true =>
  simp
  refine callK_of (law35_Few lb hb) (by simp) ?_
  cases fb : fewP b with
  | false => simp
  | true =>
  obtain ⟨na, oa3⟩ := fewP_ok fa ha
  obtain ⟨nb, ob3⟩ := fewP_ok fb hb
  have oa : ∀ p ∈ a, p.Ok 1000000 := fun p h => (oa3 p h).mono (by omega)
  have ob : ∀ p ∈ b, p.Ok 1000000 := fun p h => (ob3 p h).mono (by omega)
  have hsame : ∀ r1 r2, belowR a b r1 → belowR a b r2 → ∃ (L : List Pq) (n e : Int), r1 = .tup [.dat (L.map Pq.c), .int .i64 n, .int .i64 e] ∧ r2 = r1 ∧ L.length ≤ 1000000 ∧ ∀ p ∈ L, Fits p.q (2 ^ 30) := by
    intro r1 r2 h1 h2
    by_cases hr : (rightP a && rightP b) = true
    · have hra : rightP a = true := by simp at hr; exact hr.1
      have hrb : rightP b = true := by simp at hr; exact hr.2
      cases hint : (intP a && intP b) with
      | false =>
        rw [belowR_kind hra hrb hint] at h1 h2
        exact ⟨[], 0, 30, h1, by rw [h1, h2], by simp, by simp⟩
      | true =>
        rw [belowR_int hra hrb hint] at h1 h2
        obtain ⟨f1, f2⟩ := gr_facts (good_of hra oa) (good_of hrb ob) na nb (fun p h => (oa3 p h).w) (fun p h => (ob3 p h).w)
        rcases h1 with ⟨k, k1, k2, k3, k4⟩ | ⟨k3, k4⟩ <;> rcases h2 with ⟨j, j1, j2, j3, j4⟩ | ⟨j3, j4⟩
        · have : k = j := by
            rcases Nat.lt_trichotomy k j with h | h | h
            · exact (j3 k h k2).elim
            · exact h
            · exact (k3 j h j2).elim
          subst this
          exact ⟨[], k, 0, k4, by rw [k4, j4], by simp, by simp⟩
        · exact (j3 k k1 k2).elim
        · exact (k3 j j1 j2).elim
        · exact ⟨_, _, _, k4, by rw [k4, j4], by omega, fun p hp => (f2 p hp).2.mono (by omega)⟩
    · have e1 : ∀ r, belowR a b r → r = .tup [.dat [], .int .i64 0, .int .i64 1] := fun r h => by
        unfold belowR at h; rw [if_neg hr] at h; exact h
      exact ⟨[], 0, 1, e1 _ h1, by rw [e1 _ h1, e1 _ h2], by simp, by simp⟩
  simp
  refine callK_rel (couple_Below na nb oa3 ob3) (by simp) ?_
  intro r1 hr1
  obtain ⟨L, n, e, rfl, _, l1, l2⟩ := hsame r1 r1 hr1 hr1
  simp
  refine callK_rel (ref35_Below na nb oa3 ob3) (by simp) ?_
  intro r2 hr2
  obtain ⟨_, _, _, _, rfl, _, _⟩ := hsame _ r2 hr1 hr2
  simp
  refine callK_of (law35_same l1 l2) (by simp) ?_
  simp
  refine callK_of law35_alive (by simp) ?_
  simp
end Go.Proofs.YtnneehniendnfaaGreat
