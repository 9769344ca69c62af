/- PrivacyTurns, over data. -/
import Derived.Test.YtipbefckimdkkaaGreatIW
import Derived.Test.YtipbefckimdkkaaGreatJLPT
import Derived.Test.YtipbefckimdkkaaGreatJLPR
namespace Go.Proofs.YtipbefckimdkkaaGreat.F
open Go Go.Proofs Go.Proofs.YtipbefckimdkkaaGreat.E Go.Proofs.YtipbefckimdkkaaGreat.Q
abbrev law36_few : Nat := 45
def law36_few_c : MFn := ⟨27,(.seq (r [o 2 (.mv (.c (.bool false)))] [0]) (.seq (.seq (r [o 4 (.mv (.t 0)),o 5 (.lenS (.t 4)),o 6 (.bin .gtr (.t 5) (i 12))] [0,6]) (.cond (.t 6) (.seq (r [o 2 (.mv (.c (.bool false)))] [2]) .ret) .skip)) (.seq (.seq (r [o 7 (.mv (.t 0)),o 8 (.lenS (.t 7)),o 9 (.mv (i 0))] [0,8,9]) (.block 0 (.loop (.seq (r [o 10 (.bin .lss (.t 9) (.t 8))] [0,8,9,10]) (.seq (.cond (.t 10) .skip (.exit 0)) (.seq (.block 1 (.seq (r [o 11 (.mv (.t 9)),o 3 (.mv (.t 11))] [0,3,8,9]) (.seq (r [o 12 (.mv (.t 0)),o 13 (.mv (.t 3)),o 14 (.ixA 1 (.t 12) (.t 13)),o 15 (.ld none (.t 14)),o 16 (.call 19 [(.t 15)]),o 17 (.un .not (.t 16)),o 18 (.mv (.t 17)),n 19 18 (.mv (.t 0)),n 20 18 (.mv (.t 3)),n 21 18 (.ixA 1 (.t 19) (.t 20)),n 22 18 (.ld none (.t 21)),n 23 18 (.lenS (.t 22)),n 24 18 (.bin .gtr (.t 23) (i 5)),o 25 (.pick (.t 18) (.c (.bool true)) (.t 24))] [0,8,9,25]) (.cond (.t 25) (.seq (r [o 2 (.mv (.c (.bool false)))] [2]) .ret) .skip)))) (r [o 26 (.bin .add (.t 9) (i 1)),o 9 (.mv (.t 26))] [0,8,9]))))))) (.seq (r [o 2 (.mv (.c (.bool true)))] [2]) .ret)))),[.t 2]⟩
theorem law36_few_ok : cFn Tryz.prog (kps [[0],[0,6],[2],[0,8,9],[0,8,9,10],[0,3,8,9],[0,8,9,25],[2],[0,8,9],[2]]) [] 45 = some law36_few_c := by kernel_rfl
end Go.Proofs.YtipbefckimdkkaaGreat.F

namespace Go.Proofs.YtipbefckimdkkaaGreat
open Go Go.Proofs Go.Proofs.YtipbefckimdkkaaGreat.E
set_option linter.unusedSimpArgs false
set_option linter.unusedVariables false
theorem read_lists {l : List (List V)} (h : ∃ n, Typed Tryz.prog n T.lists [.dat l]) : ∃ t : List (List Part), l = t.map (fun x => [pl x]) ∧ t.length ≤ maxLen ∧ ∀ x ∈ t, x.length ≤ maxLen ∧ ∀ p ∈ x, p.Ok maxLen := by
 obtain ⟨n, h⟩ := h
 obtain ⟨l', e, hl, m, _, h⟩ := E.typed_sl (e := T.parts) (by kernel_rfl) h
 simp only [List.cons.injEq, V.dat.injEq, and_true] at e
 subst e
 obtain ⟨ds, rfl, hd⟩ := E.list_of (f := fun x => [pl x]) (p := fun x : List Part => x.length ≤ maxLen ∧ ∀ p ∈ x, p.Ok maxLen) fun x hx => read_listP (h x hx)
 exact ⟨ds, rfl, by simpa using hl, hd⟩
def fewL (t : List (List Part)) : Bool := decide (t.length ≤ 12) && t.all fun x => fewP x && decide (x.length ≤ 5)
theorem fewL_ok {t : List (List Part)} (h : fewL t = true) (ho : ∀ x ∈ t, x.length ≤ maxLen ∧ ∀ p ∈ x, p.Ok maxLen) : t.length ≤ 12 ∧ (∀ x ∈ t, x.length ≤ 5) ∧ (∀ x ∈ t, ∀ q ∈ x, q.Ok 3) ∧ ∀ x ∈ t, ∀ q ∈ x, manyT q.v ≤ 60 := by
 simp only [fewL, Bool.and_eq_true, decide_eq_true_eq, List.all_eq_true] at h
 exact ⟨h.1, fun x hx => (h.2 x hx).2, fun x hx => (fewP_ok (h.2 x hx).1 (ho x hx).2).2, fun x hx => many_few10 (h.2 x hx).1⟩
theorem law36_few {t : List (List Part)} (lt : t.length ≤ maxLen) (ho : ∀ x ∈ t, x.length ≤ maxLen ∧ ∀ p ∈ x, p.Ok maxLen) : CallD Tryz.prog F.law36_few [lls t] (· = .bool (fewL t)) := by
 refine callD_by F.law36_few_ok ?_
 unfold F.law36_few_c fewL
 simp
 by_cases c : t.length ≤ 12
 case neg =>
  have c' : (12 : Int) < t.length := by omega
  have c'' : ¬ (t.length : Int) ≤ 12 := by omega
  simp [c, c', c'']
 have c' : ¬ (12 : Int) < t.length := by omega
 have c'' : (t.length : Int) ≤ 12 := by omega
 simp [c, c', c'']
 refine wm_loop (fun g : Nat => (((Sl.empty.set 9 (.int .i64 g)).set 8 (.int .i64 t.length)).set 0 (lls t), [])) (fun g => g ≤ t.length ∧ ∀ x ∈ t.take g, (fewP x && decide (x.length ≤ 5)) = true) (fun g => t.length - g) 0 (by simp) ?_ ?_
 ·exact weak_p (by repeat (first | exact sub_empty | refine sub_set (by simp) ?_)) (by repeat (first | exact sin_empty | refine sin_set (by simp) ?_))
 rintro k ⟨hk, hall⟩
 by_cases h1 : k < t.length
 ·obtain ⟨lx, ox⟩ := ho _ (List.getElem_mem h1)
  simp [h1]
  refine callK_of (law35_Few lx ox) (by simp) ?_
  cases fx : fewP t[k] with
  | false =>
    simp
    exact ⟨t[k], List.getElem_mem h1, fun h => by rw [fx] at h; cases h⟩
  | true =>
  simp [h1]
  by_cases l5 : t[k].length ≤ 5
  ·have l5' : ¬ (5 : Int) < t[k].length := by omega
   have l5'' : (t[k].length : Int) ≤ 5 := by omega
   simp [l5', l5'']
   rw [wrap64 (by omega) (by omega)]
   refine ⟨k + 1, ⟨h1, fun x hx => ?_⟩, by dsimp only; omega, ?_⟩
   ·rw [List.take_succ_eq_append_getElem h1] at hx
    rcases List.mem_append.1 hx with hx | hx
    ·simpa using hall x hx
    ·simp at hx; subst hx; simp [fx, l5]
   ·exact weak_p (by repeat (first | exact sub_empty | refine sub_set (by simp) ?_)) (by repeat (first | exact sin_empty | refine sin_set (by simp) ?_))
  ·have l5' : (5 : Int) < t[k].length := by omega
   have l5'' : ¬ (t[k].length : Int) ≤ 5 := by omega
   simp [l5', l5'']
   exact ⟨t[k], List.getElem_mem h1, fun _ => by omega⟩
 ·have hkt : k = t.length := by omega
  subst hkt
  rw [List.take_length] at hall
  simp [h1]
  exact fun x hx => by have := hall x hx; simpa using this
theorem turnV_form {l : List Part} {f : List Part} {t : List (List Part)} (ll : l.length ≤ 10) (lx : ∀ x ∈ t, x.length ≤ 5) (ol : ∀ p ∈ l, p.Ok 3) (ot : ∀ x ∈ t, ∀ q ∈ x, q.Ok 3) : ∃ (R : List Part) (e : Int), turnV (tbl f t) l = .tup [pl R, .int .i64 e] ∧ R.length ≤ 50 ∧ (∀ p ∈ R, p.Ok 1000000) ∧ (e = 0 → R = normP (turnL (tbl f t) l) ∧ ∀ p ∈ l, rightP (tbl f t p.v) = true) ∧ (turnL (tbl f t) l).length ≤ 50 := by
 have h1 : (turnL (tbl f t) l).length ≤ 50 := by
  have := turnL_len (f := tbl f t) (a := l) (k := 5) fun p hp => by
   rcases tbl_mem (v := p.v) (f := f) (t := t) with h | h
   ·rw [h]; simp
   ·exact lx _ h
  have h2 : l.length * 5 ≤ 10 * 5 := Nat.mul_le_mul ll (by omega)
  omega
 unfold turnV
 split
 ·rename_i c
  simp only [Bool.and_eq_true, List.all_eq_true] at c
  have h2 := normP_oks (show 1 ≤ 3 + 3 by omega) (turnL_ok (f := tbl f t) (a := l) (k := 3) (j := 3) (by omega) (by omega) ol fun p hp q hq => by
   rcases tbl_mem (v := p.v) (f := f) (t := t) with h | h
   ·rw [h] at hq; simp at hq
   ·exact ot _ h q hq)
  refine ⟨_, 0, rfl, Nat.le_trans (normP_len _) h1, fun p hp => ⟨(h2 p hp).v, okMono (h2 p hp).w (by omega)⟩, fun _ => ⟨rfl, c.2⟩, h1⟩
 ·exact ⟨[], 1, rfl, by simp, by simp, fun h => by omega, h1⟩
end Go.Proofs.YtipbefckimdkkaaGreat
