/- Joined texts: CCou3, CCou4. -/
import Derived.Test.YtnneehniendnfaaGreatGO
/- Functions of the program, as the engine reads them; each is held against the translation. -/
namespace Go.Proofs.YtnneehniendnfaaGreat.F
open Go Go.Proofs Go.Proofs.YtnneehniendnfaaGreat.E Go.Proofs.YtnneehniendnfaaGreat.Q
abbrev cmp_Or_int : Nat := 108
def cmp_Or_int_c : MFn :=
  ⟨18,(.seq (r [o 2 (.mv (i 0))] [0]) (.seq (r [o 3 (.mv (i 0))] [0,3]) (.seq (.seq (r [o 6 (.mv (.t 0)),o 7 (.lenS (.t 6)),o 8 (.mv (i 0))] [3,6,7,8]) (.block 0 (.loop (.seq (r [o 9 (.bin .lss (.t 8)
  (.t 7))] [3,6,7,8,9]) (.seq (.cond (.t 9) .skip (.exit 0)) (.seq (.block 1 (.seq (r [o 10 (.ixA 1 (.t 6) (.t 8)),o 11 (.ld none (.t 10)),o 5 (.mv (.t 11))] [3,5,6,7,8]) (.seq (r [o 12 (.mv (.t 5)),
  o 13 (.mv (.t 3)),o 14 (.bin .neq (.t 12) (.t 13))] [3,5,6,7,8,14]) (.cond (.t 14) (.seq (r [o 15 (.mv (.t 5)),o 2 (.mv (.t 15))] [2]) .ret) .skip)))) (r [o 16 (.bin .add (.t 8) (i 1)),
  o 8 (.mv (.t 16))] [3,6,7,8]))))))) (.seq (r [o 17 (.mv (.t 3)),o 2 (.mv (.t 17))] [2]) .ret)))),[.t 2]⟩
theorem cmp_Or_int_ok : cFn Tryz.prog (kps [[0],[0,3],[3,6,7,8],[3,6,7,8,9],[3,5,6,7,8],[3,5,6,7,8,14],[2],[3,6,7,8],[2]]) [] 108 = some cmp_Or_int_c := by kernel_rfl
abbrev couple_compare : Nat := 55
def couple_compare_c : MFn :=
  ⟨17,(.seq (r [o 2 (.box (.t 0)),o 3 (.box (.t 1)),o 4 (.mv (i 0))] [2,3]) (.seq (r [o 5 (.fA 0 (.t 2)),o 6 (.ld none (.t 5)),o 7 (.fA 0 (.t 3)),o 8 (.ld none (.t 7)),o 9 (.callF 97 [(.t 6),(.t 8)]),
  o 10 (.fA 1 (.t 2)),o 11 (.ld none (.t 10)),o 12 (.fA 1 (.t 3)),o 13 (.ld none (.t 12)),o 14 (.callF 97 [(.t 11),(.t 13)]),o 15 (.buildSl 1 2 [.int .i64 0] [(0,(.t 9)),(1,(.t 14))]),
  o 16 (.callF 108 [(.t 15)]),o 4 (.mv (.t 16))] [4]) .ret)),[.t 4]⟩
theorem couple_compare_ok : cFn Tryz.prog (kps [[2,3],[4]]) [] 55 = some couple_compare_c := by kernel_rfl
end Go.Proofs.YtnneehniendnfaaGreat.F

namespace Go.Proofs.YtnneehniendnfaaGreat
open Go Go.Proofs Go.Proofs.YtnneehniendnfaaGreat.E
set_option linter.unusedSimpArgs false
set_option linter.unusedVariables false
theorem cmp_Or (x y : Int) : CallD Tryz.prog F.cmp_Or_int [.dat [[.int .i64 x], [.int .i64 y]]] (· = .int .i64 (orI x y)) := by
  refine callD_by F.cmp_Or_int_ok ?_
  unfold F.cmp_Or_int_c orI
  simp
  refine wm_loop (fun g : Nat => ((((Sl.empty.set 8 (.int .i64 g)).set 7 (.int .i64 2)).set 6 (.dat [[.int .i64 x], [.int .i64 y]])).set 3 (.int .i64 0), [])) (fun g => g ≤ 2 ∧ (0 < g → x = 0) ∧ (1 < g → y = 0)) (fun g => 2 - g) 0 ⟨by omega, by omega, by omega⟩ ?_ ?_
  · exact weak_p (by repeat (first | exact sub_empty | refine sub_set (by simp) ?_)) (by repeat (first | exact sin_empty | refine sin_set (by simp) ?_))
  rintro i ⟨hi, hx, hy⟩
  match i, hi with
  | 0, _ =>
    by_cases h : x = 0
    · simp [h]
      rw [wrap64 (by omega) (by omega)]
      refine ⟨1, ⟨by omega, by omega⟩, by dsimp only; omega, ?_⟩
      exact weak_p (by repeat (first | exact sub_empty | refine sub_set (by simp) ?_)) (by repeat (first | exact sin_empty | refine sin_set (by simp) ?_))
    · simp [h]
  | 1, _ =>
    have := hx (by omega)
    subst this
    by_cases h : y = 0
    · simp [h]
      rw [wrap64 (by omega) (by omega)]
      refine ⟨2, by omega, by dsimp only; omega, ?_⟩
      exact weak_p (by repeat (first | exact sub_empty | refine sub_set (by simp) ?_)) (by repeat (first | exact sin_empty | refine sin_set (by simp) ?_))
    · simp [h]
  | 2, _ =>
    have h1 := hx (by omega)
    have h2 := hy (by omega)
    subst h1; subst h2
    simp
theorem E.toD_ref {σ : Sto} {o n k es : Nat} {st : St} {l : List (List V)} (h : E.look σ o = some ⟨st, es, l⟩) (hs : st ≠ .dead) (he : es ≠ 0) (hl : l.length = n) (h0 : n ≠ 0) (hd : ∀ r ∈ l, mapO (toD σ k) r = some r) : toD σ (k + 1) (.ref o 0 n) = some (.dat l) := by
  rw [← grown_pos h0]; exact toD_grown (fun _ => h) hs he hl hd
theorem E.toD_clo0 (σ : Sto) (f : Nat) : toD σ 12 (.clo f []) = some (.clo f []) := (rfl)
theorem couple_compare (p q : Pr) : CallD Tryz.prog F.couple_compare [.agg (prC p), .agg (prC q)] (· = .int .i64 (cmpPr p q)) := by
  refine callD_by F.couple_compare_ok ?_
  unfold F.couple_compare_c cmpPr
  simp [setOb, List.filter_cons]
  refine callFK_of (cmp_Compare p.A q.A) (by simp) ?_
  simp
  refine callFK_of (cmp_Compare p.B q.B) (by simp) ?_
  simp [setOb, List.filter_cons]
  refine callFK_of (cmp_Or (cmpI p.A q.A) (cmpI p.B q.B)) ?_ ?_
  · simp
    rw [E.toD_ref (k := 11) (st := .own) (es := 1) (l := [[.int .i64 (cmpI p.A q.A)], [.int .i64 (cmpI p.B q.B)]]) (by simp [E.look]) (by simp) (by simp) (by simp) (by simp) (by simp)]
  simp
end Go.Proofs.YtnneehniendnfaaGreat

namespace Go.Proofs.YtnneehniendnfaaGreat
open Go Go.Proofs Go.Proofs.YtnneehniendnfaaGreat.E
set_option linter.unusedSimpArgs false
set_option linter.unusedVariables false
end Go.Proofs.YtnneehniendnfaaGreat
