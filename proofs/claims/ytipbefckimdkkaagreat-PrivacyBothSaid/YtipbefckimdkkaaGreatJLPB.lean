/- PrivacyBoth, over data. -/
import Derived.Test.YtipbefckimdkkaaGreatHF
import Derived.Test.YtipbefckimdkkaaGreatJLPR
/- Functions of the program, as the engine reads them; each is held against the translation. -/
namespace Go.Proofs.YtipbefckimdkkaaGreat.F
open Go Go.Proofs Go.Proofs.YtipbefckimdkkaaGreat.E Go.Proofs.YtipbefckimdkkaaGreat.Q
abbrev law36_PrivacyBoth : Nat := 7
def law36_PrivacyBoth_c : MFn :=
  ⟨40,(.seq (r [o 4 (.mv (.c (.bool false)))] [0,1]) (.seq (.seq (r [o 9 (.mv (.t 0)),o 10 (.call 19 [(.t 9)]),o 11 (.un .not (.t 10)),o 12 (.mv (.t 11)),n 13 12 (.mv (.t 1)),
  n 14 12 (.call 19 [(.t 13)]),n 15 12 (.un .not (.t 14)),o 16 (.pick (.t 12) (.c (.bool true)) (.t 15))] [0,1,16]) (.cond (.t 16) (.seq (r [o 4 (.mv (.c (.bool true)))] [4]) .ret) .skip))
  (.seq (r [o 18 (.mv (.t 0)),o 19 (.mv (.t 1)),o 20 (.call 33 [(.t 18),(.t 19)]),o 17 (.mv (.t 20)),o 21 (.ext (.t 17) 0),o 22 (.ext (.t 17) 1),o 5 (.mv (.t 21)),o 6 (.mv (.t 22))] [0,1,5,6])
  (.seq (r [o 24 (.mv (.t 0)),o 25 (.mv (.t 1)),o 26 (.call 34 [(.t 24),(.t 25)]),o 23 (.mv (.t 26)),o 27 (.ext (.t 23) 0),o 28 (.ext (.t 23) 1),o 7 (.mv (.t 27)),o 8 (.mv (.t 28))] [5,6,7,8])
  (.seq (r [o 29 (.mv (.t 6)),o 30 (.mv (.t 8)),o 31 (.bin .eql (.t 29) (.t 30)),o 32 (.mv (.t 31)),y 33 32 (.mv (.t 5)),y 34 32 (.mv (.t 7)),y 35 32 (.call 35 [(.t 33),(.t 34)]),o 36 (.pick (.t 32)
  (.t 35) (.c (.bool false))),o 37 (.mv (.t 36)),y 38 37 (.call 18 []),o 39 (.pick (.t 37) (.t 38) (.c (.bool false))),o 4 (.mv (.t 39))] [4]) .ret))))),[.t 4]⟩
theorem law36_PrivacyBoth_ok : cFn Tryz.prog (kps [[0,1],[0,1,16],[4],[0,1,5,6],[5,6,7,8],[4]]) [] 7 = some law36_PrivacyBoth_c := by kernel_rfl
end Go.Proofs.YtipbefckimdkkaaGreat.F

namespace Go.Proofs.YtipbefckimdkkaaGreat
open Go Go.Proofs Go.Proofs.YtipbefckimdkkaaGreat.E
set_option linter.unusedSimpArgs false
set_option linter.unusedVariables false
theorem bothV_form {a b : List Part} (na : a.length ≤ 10) (nb : b.length ≤ 10) (oa : ∀ p ∈ a, p.Ok 1000000) (ob : ∀ p ∈ b, p.Ok 1000000) : ∃ (l : List Part) (e : Int), bothV a b = .tup [pl l, .int .i64 e] ∧ l.length ≤ 1000 ∧ ∀ p ∈ l, p.v.Ok ∧ p.w.Ok (2 ^ 31) := by
  unfold bothV
  split
  · split
    · exact ⟨[], 2, rfl, by simp, by simp⟩
    · refine ⟨jointL a b, 0, rfl, ?_, fun p hp => ⟨joint_ok (fun p hp => (oa p hp).v) (fun p hp => (ob p hp).v) p hp, ?_⟩⟩
      · rw [jointL_length]
        have := Nat.mul_le_mul na nb
        omega
      · unfold jointL at hp
        obtain ⟨x, hx, hp⟩ := List.mem_flatMap.1 hp
        obtain ⟨y, hy, rfl⟩ := List.mem_map.1 hp
        exact rawOf_ok ((fits_mul (Raw.fits (oa x hx).w (by omega)) (Raw.fits (ob y hy).w (by omega)) (by omega)).mono (by omega))
  · exact ⟨[], 1, rfl, by simp, by simp⟩
theorem privacyBoth_law {l0 l1 : List (List V)} (h0 : ∃ n, Typed Tryz.prog n T.parts [.dat l0]) (h1 : ∃ n, Typed Tryz.prog n T.parts [.dat l1]) : CallD Tryz.prog F.law36_PrivacyBoth [.dat l0, .dat l1] (· = .bool true) := by
  obtain ⟨a, rfl, la, ha⟩ := read_parts h0
  obtain ⟨b, rfl, lb, hb⟩ := read_parts h1
  refine callD_by F.law36_PrivacyBoth_ok ?_
  unfold F.law36_PrivacyBoth_c
  simp
  refine callK_of (law35_Few la ha) (by simp) ?_
  cases fa : fewP a with
  | false => simp
  | true =>
  simp
  refine callK_of (law35_Few lb hb) (by simp) ?_
  cases fb : fewP b with
  | false => simp
  | true =>
  obtain ⟨na, oa3⟩ := fewP_ok fa ha
  obtain ⟨nb, ob3⟩ := fewP_ok fb hb
  have oa : ∀ p ∈ a, p.Ok 1000000 := fun p h => (oa3 p h).mono (by omega)
  have ob : ∀ p ∈ b, p.Ok 1000000 := fun p h => (ob3 p h).mono (by omega)
  obtain ⟨l, e, hv, hl, ho⟩ := bothV_form na nb oa ob
  simp
  refine callK_of (privacy_Both (by omega) (by omega) oa ob (many_few10 fa) (many_few10 fb)) (by simp) ?_
  rw [hv]
  simp
  refine callK_of (ref36_Both (by omega) (by omega) oa ob) (by simp) ?_
  rw [hv]
  simp
  refine callK_of (law36_sameParts hl ho) (by simp) ?_
  simp
  refine callK_of law36_alive (by simp) ?_
  simp
end Go.Proofs.YtipbefckimdkkaaGreat
