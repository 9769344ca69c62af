/- CoupleBlocks, over data. -/
import Derived.Test.YtnneehniendnfaaGreatJLCR
import Derived.Test.YtnneehniendnfaaGreatGW
/- Functions of the program, as the engine reads them; each is held against the translation. -/
namespace Go.Proofs.YtnneehniendnfaaGreat.F
open Go Go.Proofs Go.Proofs.YtnneehniendnfaaGreat.E Go.Proofs.YtnneehniendnfaaGreat.Q
abbrev law35_CoupleBlocks : Nat := 7
def law35_CoupleBlocks_c : MFn :=
  ⟨45,(.seq (r [o 5 (.box (.t 2)),o 6 (.mv (.c (.bool false)))] [0,1,5]) (.seq (r [o 9 (.fA 0 (.t 5)),o 10 (.ld none (.t 9)),o 11 (.fA 1 (.t 5)),o 12 (.ld none (.t 11)),o 7 (.mv (.t 10)),
  o 8 (.mv (.t 12))] [0,1,7,8]) (.seq (.seq (r [o 13 (.mv (.t 0)),o 14 (.call 12 [(.t 13)]),o 15 (.un .not (.t 14)),o 16 (.mv (.t 15)),n 17 16 (.mv (.t 1)),n 18 16 (.call 12 [(.t 17)]),
  n 19 16 (.un .not (.t 18)),o 20 (.pick (.t 16) (.c (.bool true)) (.t 19)),o 21 (.mv (.t 20)),n 22 21 (.mv (.t 7)),n 23 21 (.lenS (.t 22)),n 24 21 (.bin .gtr (.t 23) (i 120)),o 25 (.pick (.t 21)
  (.c (.bool true)) (.t 24)),o 26 (.mv (.t 25)),n 27 26 (.mv (.t 8)),n 28 26 (.lenS (.t 27)),n 29 26 (.bin .gtr (.t 28) (i 20)),o 30 (.pick (.t 26) (.c (.bool true)) (.t 29))] [0,1,7,8,30])
  (.cond (.t 30) (.seq (r [o 6 (.mv (.c (.bool true)))] [6]) .ret) .skip)) (.seq (r [o 31 (.mv (.t 0)),o 32 (.mv (.t 1)),o 33 (.mv (.t 7)),o 34 (.mv (.t 8)),o 35 (.call 33 [(.t 31),(.t 32),(.t 33),
  (.t 34)]),o 36 (.mv (.t 0)),o 37 (.mv (.t 1)),o 38 (.mv (.t 7)),o 39 (.mv (.t 8)),o 40 (.call 34 [(.t 36),(.t 37),(.t 38),(.t 39)]),o 41 (.binB .eql (.t 35) (.t 40)),o 42 (.mv (.t 41)),
  y 43 42 (.call 19 []),o 44 (.pick (.t 42) (.t 43) (.c (.bool false))),o 6 (.mv (.t 44))] [6]) .ret)))),[.t 6]⟩
theorem law35_CoupleBlocks_ok : cFn Tryz.prog (kps [[0,1,5],[0,1,7,8],[0,1,7,8,30],[6],[6]]) [] 7 = some law35_CoupleBlocks_c := by kernel_rfl
end Go.Proofs.YtnneehniendnfaaGreat.F

namespace Go.Proofs.YtnneehniendnfaaGreat
open Go Go.Proofs Go.Proofs.YtnneehniendnfaaGreat.E
set_option linter.unusedSimpArgs false
set_option linter.unusedVariables false
theorem read_ints {n : Nat} {vs : List V} (h : Typed Tryz.prog n 56 vs) : ∃ l : List Int, vs = [il l] ∧ l.length ≤ maxLen := by
  obtain ⟨l, rfl, hl, m, _, h⟩ := E.typed_sl (e := 3) (by kernel_rfl) h
  obtain ⟨ds, rfl, hd⟩ := E.list_of (f := intC) (p := fun d => -9223372036854775808 ≤ d ∧ d < 9223372036854775808) fun x hx => read_int (h x hx)
  exact ⟨ds, rfl, by simpa using hl⟩
theorem read_two {n : Nat} {vs : List V} (h : Typed Tryz.prog n 73 vs) : ∃ m : Int × Int, vs = mayC m := by
  obtain ⟨k, _, h⟩ := E.typed_ar (m := 2) (e := 3) (by kernel_rfl) h
  obtain ⟨a, y, rfl, ha, h⟩ := E.all_cons h
  obtain ⟨b, z, rfl, hb, h⟩ := E.all_cons h
  have := E.all_nil h
  subst this
  obtain ⟨x, rfl, _⟩ := read_int ha
  obtain ⟨y, rfl, _⟩ := read_int hb
  exact ⟨(x, y), rfl⟩
theorem read_may {n : Nat} {vs : List V} (h : Typed Tryz.prog n 55 vs) : ∃ l : List (Int × Int), vs = [mayV l] ∧ l.length ≤ maxLen := by
  obtain ⟨l, rfl, hl, m, _, h⟩ := E.typed_sl (e := 73) (by kernel_rfl) h
  obtain ⟨ds, rfl, hd⟩ := E.list_of (f := mayC) (p := fun _ => True) fun x hx => by
    obtain ⟨m, hm⟩ := read_two (h x hx); exact ⟨m, hm, trivial⟩
  exact ⟨ds, rfl, by simpa using hl⟩
theorem read_at {l : List V} (h : ∃ n, Typed Tryz.prog n 58 l) : ∃ (may : List (Int × Int)) (set : List Int) (ps : List (List V)), l = [mayV may, il set, .dat ps] ∧ may.length ≤ maxLen ∧ set.length ≤ maxLen ∧ ∃ n, Typed Tryz.prog n 23 [.dat ps] := by
  obtain ⟨n, h⟩ := h
  obtain ⟨m, _, h⟩ := E.typed_st (l := [55, 56, 23]) (by kernel_rfl) h
  obtain ⟨a, y, rfl, ha, h⟩ := E.all_cons h
  obtain ⟨b, z, rfl, hb, h⟩ := E.all_cons h
  obtain ⟨c, w, rfl, hc, h⟩ := E.all_cons h
  have := E.all_nil h
  subst this
  obtain ⟨may, rfl, h1⟩ := read_may ha
  obtain ⟨set, rfl, h2⟩ := read_ints hb
  obtain ⟨ps, rfl, _⟩ := E.typed_sl (e := 69) (by kernel_rfl) hc
  exact ⟨may, set, ps, rfl, h1, h2, m, hc⟩
theorem coupleBlocks_law {l0 l1 : List (List V)} {l2 : List V} (h0 : ∃ n, Typed Tryz.prog n 22 [.dat l0]) (h1 : ∃ n, Typed Tryz.prog n 22 [.dat l1]) (h2 : ∃ n, Typed Tryz.prog n 58 l2) : CallD Tryz.prog 7 [.dat l0, .dat l1, .agg l2] (· = .bool true) := by
  obtain ⟨a, rfl, la, ha⟩ := read_parts h0
  obtain ⟨b, rfl, lb, hb⟩ := read_parts h1
  obtain ⟨may, set, ps, rfl, lm, ls, _⟩ := read_at h2
  refine callD_by F.law35_CoupleBlocks_ok ?_
  unfold F.law35_CoupleBlocks_c
  simp [setOb, List.filter_cons]
  refine callK_of (law35_Few la ha) (by simp) ?_
  cases fa : fewP a with
  | false => simp
  | true =>
  simp
  refine callK_of (law35_Few lb hb) (by simp) ?_
  cases fb : fewP b with
  | false => simp
  | true =>
  obtain ⟨na, oa3⟩ := fewP_ok fa ha
  obtain ⟨nb, ob3⟩ := fewP_ok fb hb
  have oa : ∀ p ∈ a, p.Ok 1000000 := fun p h => (oa3 p h).mono (by omega)
  have ob : ∀ p ∈ b, p.Ok 1000000 := fun p h => (ob3 p h).mono (by omega)
  simp
  by_cases c1 : (120 : Int) < may.length
  · simp [c1]
  by_cases c2 : (20 : Int) < set.length
  · simp [c1, c2]
  simp [c1, c2]
  refine callK_of (couple_Blocks (may := may) (set := set) (by omega) (by omega) (by omega) (by omega) oa ob) (by simp) ?_
  simp
  refine callK_of (ref35_Blocks (may := may) (set := set) (by omega) (by omega) (by omega) (by omega) oa ob) (by simp) ?_
  simp
  refine callK_of law35_alive (by simp) ?_
  simp
end Go.Proofs.YtnneehniendnfaaGreat
