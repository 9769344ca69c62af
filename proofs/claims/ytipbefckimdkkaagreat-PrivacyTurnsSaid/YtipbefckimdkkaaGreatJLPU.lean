/- PrivacyTurns, over data. -/
import Derived.Test.YtipbefckimdkkaaGreatIW
import Derived.Test.YtipbefckimdkkaaGreatJLPT
import Derived.Test.YtipbefckimdkkaaGreatJLPR
namespace Go.Proofs.YtipbefckimdkkaaGreat.F
open Go Go.Proofs Go.Proofs.YtipbefckimdkkaaGreat.E Go.Proofs.YtipbefckimdkkaaGreat.Q
abbrev law36_few : Nat := 45
def law36_few_c : MFn := ⟨27,(.seq (r [o 2 (.mv (.c (.bool false)))] [0]) (.seq (.seq (r [o 4 (.mv (.t 0)),o 5 (.lenS (.t 4)),o 6 (.bin .gtr (.t 5) (i 12))] [0,6]) (.cond (.t 6) (.seq (r [o 2 (.mv (.c (.bool false)))] [2]) .ret) .skip)) (.seq (.seq (r [o 7 (.mv (.t 0)),o 8 (.lenS (.t 7)),o 9 (.mv (i 0))] [0,8,9]) (.block 0 (.loop (.seq (r [o 10 (.bin .lss (.t 9) (.t 8))] [0,8,9,10]) (.seq (.cond (.t 10) .skip (.exit 0)) (.seq (.block 1 (.seq (r [o 11 (.mv (.t 9)),o 3 (.mv (.t 11))] [0,3,8,9]) (.seq (r [o 12 (.mv (.t 0)),o 13 (.mv (.t 3)),o 14 (.ixA 1 (.t 12) (.t 13)),o 15 (.ld none (.t 14)),o 16 (.call 19 [(.t 15)]),o 17 (.un .not (.t 16)),o 18 (.mv (.t 17)),n 19 18 (.mv (.t 0)),n 20 18 (.mv (.t 3)),n 21 18 (.ixA 1 (.t 19) (.t 20)),n 22 18 (.ld none (.t 21)),n 23 18 (.lenS (.t 22)),n 24 18 (.bin .gtr (.t 23) (i 5)),o 25 (.pick (.t 18) (.c (.bool true)) (.t 24))] [0,8,9,25]) (.cond (.t 25) (.seq (r [o 2 (.mv (.c (.bool false)))] [2]) .ret) .skip)))) (r [o 26 (.bin .add (.t 9) (i 1)),o 9 (.mv (.t 26))] [0,8,9]))))))) (.seq (r [o 2 (.mv (.c (.bool true)))] [2]) .ret)))),[.t 2]⟩
theorem law36_few_ok : cFn Tryz.prog (kps [[0],[0,6],[2],[0,8,9],[0,8,9,10],[0,3,8,9],[0,8,9,25],[2],[0,8,9],[2]]) [] 45 = some law36_few_c := by kernel_rfl
abbrev law36_PrivacyTurns : Nat := 11
def law36_PrivacyTurns_c : MFn := ⟨76,(.seq (r [o 4 (.mv (.c (.bool false)))] [0,1]) (.seq (.seq (r [o 13 (.mv (.t 0)),o 14 (.call 19 [(.t 13)]),o 15 (.un .not (.t 14)),o 16 (.mv (.t 15)),n 17 16 (.mv (.t 1)),n 18 16 (.call 45 [(.t 17)]),n 19 16 (.un .not (.t 18)),o 20 (.pick (.t 16) (.c (.bool true)) (.t 19))] [0,1,20]) (.cond (.t 20) (.seq (r [o 4 (.mv (.c (.bool true)))] [4]) .ret) .skip)) (.seq (r [o 5 (.mv (.c .nils))] [0,1,5]) (.seq (.seq (r [o 21 (.mv (.t 0)),o 22 (.lenS (.t 21)),o 23 (.mv (i 0))] [0,1,5,22,23]) (.block 0 (.loop (.seq (r [o 24 (.bin .lss (.t 23) (.t 22))] [0,1,5,22,23,24]) (.seq (.cond (.t 24) .skip (.exit 0)) (.seq (.block 1 (.seq (r [o 25 (.mv (.t 23)),o 6 (.mv (.t 25))] [0,1,5,6,22,23]) (.seq (r [o 26 (.mv (.t 6)),o 27 (.mv (.t 1)),o 28 (.lenS (.t 27)),o 29 (.bin .lss (.t 26) (.t 28))] [0,1,5,6,22,23,29]) (.cond (.t 29) (r [o 30 (.mv (.t 5)),o 31 (.mv (.t 1)),o 32 (.mv (.t 6)),o 33 (.ixA 1 (.t 31) (.t 32)),o 34 (.ld none (.t 33)),o 35 (.buildSl 1 1 [.nils] [(0,(.t 34))]),o 36 (.app 1 24 (.t 30) (.t 35)),o 5 (.mv (.t 36))] [0,1,5,22,23]) (r [o 37 (.mv (.t 5)),o 38 (.buildSl 1 1 [.nils] [(0,(.c .nils))]),o 39 (.app 1 24 (.t 37) (.t 38)),o 5 (.mv (.t 39))] [0,1,5,22,23]))))) (r [o 40 (.bin .add (.t 23) (i 1)),o 23 (.mv (.t 40))] [0,1,5,22,23]))))))) (.seq (r [o 42 (.mv (.t 0)),o 43 (.mv (.t 0)),o 44 (.mv (.t 1)),o 45 (.build [.nils,.nils] [(0,1,(.t 43)),(1,1,(.t 44))]),o 46 (.mkF (47 + bm) [(.t 45)]),o 47 (.call 46 [(.t 42),(.t 46)]),o 41 (.mv (.t 47)),o 48 (.ext (.t 41) 0),o 49 (.ext (.t 41) 1),o 7 (.mv (.t 48)),o 8 (.mv (.t 49))] [0,5,7,8]) (.seq (r [o 51 (.mv (.t 0)),o 52 (.mv (.t 5)),o 53 (.call 48 [(.t 51),(.t 52)]),o 50 (.mv (.t 53)),o 54 (.ext (.t 50) 0),o 55 (.ext (.t 50) 1),o 9 (.mv (.t 54)),o 10 (.mv (.t 55))] [0,7,8,9,10]) (.seq (r [o 57 (.mv (.t 0)),o 58 (.call 46 [(.t 57),(.c .nilf)]),o 56 (.mv (.t 58)),o 59 (.ext (.t 56) 0),o 60 (.ext (.t 56) 1),o 11 (.mv (.t 59)),o 12 (.mv (.t 60))] [7,8,9,10,12]) (.seq (r [o 61 (.mv (.t 8)),o 62 (.mv (.t 10)),o 63 (.bin .eql (.t 61) (.t 62)),o 64 (.mv (.t 63)),y 65 64 (.mv (.t 7)),y 66 64 (.mv (.t 9)),y 67 64 (.call 35 [(.t 65),(.t 66)]),o 68 (.pick (.t 64) (.t 67) (.c (.bool false))),o 69 (.mv (.t 68)),y 70 69 (.mv (.t 12)),y 71 69 (.bin .eql (.t 70) (i 1)),o 72 (.pick (.t 69) (.t 71) (.c (.bool false))),o 73 (.mv (.t 72)),y 74 73 (.call 18 []),o 75 (.pick (.t 73) (.t 74) (.c (.bool false))),o 4 (.mv (.t 75))] [4]) .ret)))))))),[.t 4]⟩
theorem law36_PrivacyTurns_ok : cFn Tryz.prog (kps [[0,1],[0,1,20],[4],[0,1,5],[0,1,5,22,23],[0,1,5,22,23,24],[0,1,5,6,22,23],[0,1,5,6,22,23,29],[0,1,5,22,23],[0,1,5,22,23],[0,1,5,22,23],[0,5,7,8],[0,7,8,9,10],[7,8,9,10,12],[4]]) [] 11 = some law36_PrivacyTurns_c := by kernel_rfl
end Go.Proofs.YtipbefckimdkkaaGreat.F

namespace Go.Proofs.YtipbefckimdkkaaGreat
open Go Go.Proofs Go.Proofs.YtipbefckimdkkaaGreat.E
set_option linter.unusedSimpArgs false
set_option linter.unusedVariables false
theorem read_lists {l : List (List V)} (h : ∃ n, Typed Tryz.prog n T.lists [.dat l]) : ∃ t : List (List Part), l = t.map (fun x => [pl x]) ∧ t.length ≤ maxLen ∧ ∀ x ∈ t, x.length ≤ maxLen ∧ ∀ p ∈ x, p.Ok maxLen := by
 obtain ⟨n, h⟩ := h
 obtain ⟨l', e, hl, m, _, h⟩ := E.typed_sl (e := T.parts) (by kernel_rfl) h
 simp only [List.cons.injEq, V.dat.injEq, and_true] at e
 subst e
 obtain ⟨ds, rfl, hd⟩ := E.list_of (f := fun x => [pl x]) (p := fun x : List Part => x.length ≤ maxLen ∧ ∀ p ∈ x, p.Ok maxLen) fun x hx => read_listP (h x hx)
 exact ⟨ds, rfl, by simpa using hl, hd⟩
theorem getD_lt {α : Type} {l : List α} {d : α} {k : Nat} (h : k < l.length) : l.getD k d = l[k] := by simp [List.getD, List.getElem?_eq_getElem h]
theorem getD_ge {α : Type} {l : List α} {d : α} {k : Nat} (h : l.length ≤ k) : l.getD k d = d := by simp [List.getD, List.getElem?_eq_none h]
def fewL (t : List (List Part)) : Bool := decide (t.length ≤ 12) && t.all fun x => fewP x && decide (x.length ≤ 5)
theorem fewL_ok {t : List (List Part)} (h : fewL t = true) (ho : ∀ x ∈ t, x.length ≤ maxLen ∧ ∀ p ∈ x, p.Ok maxLen) : t.length ≤ 12 ∧ (∀ x ∈ t, x.length ≤ 5) ∧ (∀ x ∈ t, ∀ q ∈ x, q.Ok 3) ∧ ∀ x ∈ t, ∀ q ∈ x, manyT q.v ≤ 60 := by
 simp only [fewL, Bool.and_eq_true, decide_eq_true_eq, List.all_eq_true] at h
 exact ⟨h.1, fun x hx => (h.2 x hx).2, fun x hx => (fewP_ok (h.2 x hx).1 (ho x hx).2).2, fun x hx => many_few10 (h.2 x hx).1⟩
theorem law36_few {t : List (List Part)} (lt : t.length ≤ maxLen) (ho : ∀ x ∈ t, x.length ≤ maxLen ∧ ∀ p ∈ x, p.Ok maxLen) : CallD Tryz.prog F.law36_few [lls t] (· = .bool (fewL t)) := by
 refine callD_by F.law36_few_ok ?_
 unfold F.law36_few_c fewL
 simp
 by_cases c : t.length ≤ 12
 case neg =>
  have c' : (12 : Int) < t.length := by omega
  have c'' : ¬ (t.length : Int) ≤ 12 := by omega
  simp [c, c', c'']
 have c' : ¬ (12 : Int) < t.length := by omega
 have c'' : (t.length : Int) ≤ 12 := by omega
 simp [c, c', c'']
 refine wm_loop (fun g : Nat => (((Sl.empty.set 9 (.int .i64 g)).set 8 (.int .i64 t.length)).set 0 (lls t), [])) (fun g => g ≤ t.length ∧ ∀ x ∈ t.take g, (fewP x && decide (x.length ≤ 5)) = true) (fun g => t.length - g) 0 (by simp) ?_ ?_
 ·exact weak_p (by repeat (first | exact sub_empty | refine sub_set (by simp) ?_)) (by repeat (first | exact sin_empty | refine sin_set (by simp) ?_))
 rintro k ⟨hk, hall⟩
 by_cases h1 : k < t.length
 ·obtain ⟨lx, ox⟩ := ho _ (List.getElem_mem h1)
  simp [h1]
  refine callK_of (law35_Few lx ox) (by simp) ?_
  cases fx : fewP t[k] with
  | false =>
    simp
    exact ⟨t[k], List.getElem_mem h1, fun h => by rw [fx] at h; cases h⟩
  | true =>
  simp [h1]
  by_cases l5 : t[k].length ≤ 5
  ·have l5' : ¬ (5 : Int) < t[k].length := by omega
   have l5'' : (t[k].length : Int) ≤ 5 := by omega
   simp [l5', l5'']
   rw [wrap64 (by omega) (by omega)]
   refine ⟨k + 1, ⟨h1, fun x hx => ?_⟩, by dsimp only; omega, ?_⟩
   ·rw [List.take_succ_eq_append_getElem h1] at hx
    rcases List.mem_append.1 hx with hx | hx
    ·simpa using hall x hx
    ·simp at hx; subst hx; simp [fx, l5]
   ·exact weak_p (by repeat (first | exact sub_empty | refine sub_set (by simp) ?_)) (by repeat (first | exact sin_empty | refine sin_set (by simp) ?_))
  ·have l5' : (5 : Int) < t[k].length := by omega
   have l5'' : ¬ (t[k].length : Int) ≤ 5 := by omega
   simp [l5', l5'']
   exact ⟨t[k], List.getElem_mem h1, fun _ => by omega⟩
 ·have hkt : k = t.length := by omega
  subst hkt
  rw [List.take_length] at hall
  simp [h1]
  exact fun x hx => by have := hall x hx; simpa using this
theorem privacy_TurnN {l : List Part} (ll : l.length ≤ 1000) (ol : ∀ p ∈ l, p.Ok 1000000) : CallD Tryz.prog F.privacy_Turn [pl l, .nilf] (· = .tup [.dat [], .int .i64 1]) := by
 refine callD_by F.privacy_Turn_ok ?_
 unfold F.privacy_Turn_c
 simp [setOb, List.filter_cons]
 refine callK_of (couple_Right (by omega) ol) (by simp) ?_
 cases rl : rightP l with
 | false => simp [setOb, List.filter_cons]
 | true => simp [setOb, List.filter_cons, evBinF]
def allT (t : List (List Part)) (n : Nat) : List (List Part) := (List.range n).map fun k => t.getD k []
theorem allT_len (t : List (List Part)) (n : Nat) : (allT t n).length = n := by simp [allT]
theorem allT_mem {t : List (List Part)} {n : Nat} {x : List Part} (h : x ∈ allT t n) : x = [] ∨ x ∈ t := by
 simp only [allT, List.mem_map] at h
 obtain ⟨k, _, rfl⟩ := h
 by_cases c : k < t.length
 ·right; rw [getD_lt c]; exact List.getElem_mem c
 ·left; rw [getD_ge (by omega)]
theorem allT_tbl {l : List Part} {t : List (List Part)} (hd : Dist l) : allT t l.length = l.map fun p => tbl l t p.v := by
 refine List.ext_getElem (by simp [allT]) fun i h1 h2 => ?_
 simp only [allT, List.getElem_map, List.getElem_range]
 rw [tbl_at hd (by simpa using h2)]
def rowT1 (t : List (List Part)) (k : Nat) : List V := if k < t.length then [pl (t.getD k [])] else [.nils]
theorem rows_toD (σ : Sto) (m : Nat) (t : List (List Part)) : ∀ l : List Nat, mapO (mapO (toD σ (m + 1))) (l.map (rowT1 t)) = some (l.map fun k => [pl (t.getD k [])])
 | [] => rfl
 | k :: l => by
   simp only [List.map_cons, mapO]
   rw [rows_toD σ m t l]
   have : mapO (toD σ (m + 1)) (rowT1 t k) = some [pl (t.getD k [])] := by
    unfold rowT1
    by_cases c : k < t.length
    ·rw [if_pos c]; rfl
    ·rw [if_neg c, getD_ge (by omega)]; rfl
   rw [this]
theorem turn_same {l : List Part} {t : List (List Part)} (ol : ∀ p ∈ l, p.Ok 3) (ot : ∀ x ∈ t, ∀ q ∈ x, q.Ok 3) : turnRefV l (allT t l.length) = turnV (tbl l t) l := by
 unfold turnRefV turnV
 cases rl : rightP l with
 | false => simp
 | true =>
 have gl := good_of rl fun p hp => ⟨(ol p hp).v, okMono (ol p hp).w (by omega)⟩
 rw [allT_tbl (dist_of gl.rise)]
 simp only [List.length_map, decide_true, Bool.true_and, List.all_map, Function.comp_def]
 by_cases ha : (l.all fun p => rightP (tbl l t p.v)) = true
 ·rw [if_pos ha, if_pos ha, turnZ_map, norm_full]
  refine turnL_pos gl.pos fun p hp => (good_of (List.all_eq_true.1 ha p hp) fun q hq => ?_).pos
  rcases tbl_mem (v := p.v) (f := l) (t := t) with h | h
  ·rw [h] at hq; simp at hq
  ·exact ⟨(ot _ h q hq).v, okMono (ot _ h q hq).w (by omega)⟩
 ·rw [if_neg ha, if_neg ha]
theorem turnV_form {l : List Part} {f : List Part} {t : List (List Part)} (ll : l.length ≤ 10) (lx : ∀ x ∈ t, x.length ≤ 5) (ol : ∀ p ∈ l, p.Ok 3) (ot : ∀ x ∈ t, ∀ q ∈ x, q.Ok 3) : ∃ (R : List Part) (e : Int), turnV (tbl f t) l = .tup [pl R, .int .i64 e] ∧ R.length ≤ 50 ∧ (∀ p ∈ R, p.Ok 1000000) ∧ (e = 0 → R = normP (turnL (tbl f t) l) ∧ ∀ p ∈ l, rightP (tbl f t p.v) = true) ∧ (turnL (tbl f t) l).length ≤ 50 := by
 have h1 : (turnL (tbl f t) l).length ≤ 50 := by
  have := turnL_len (f := tbl f t) (a := l) (k := 5) fun p hp => by
   rcases tbl_mem (v := p.v) (f := f) (t := t) with h | h
   ·rw [h]; simp
   ·exact lx _ h
  have h2 : l.length * 5 ≤ 10 * 5 := Nat.mul_le_mul ll (by omega)
  omega
 unfold turnV
 split
 ·rename_i c
  simp only [Bool.and_eq_true, List.all_eq_true] at c
  have h2 := normP_oks (show 1 ≤ 3 + 3 by omega) (turnL_ok (f := tbl f t) (a := l) (k := 3) (j := 3) (by omega) (by omega) ol fun p hp q hq => by
   rcases tbl_mem (v := p.v) (f := f) (t := t) with h | h
   ·rw [h] at hq; simp at hq
   ·exact ot _ h q hq)
  refine ⟨_, 0, rfl, Nat.le_trans (normP_len _) h1, fun p hp => ⟨(h2 p hp).v, okMono (h2 p hp).w (by omega)⟩, fun _ => ⟨rfl, c.2⟩, h1⟩
 ·exact ⟨[], 1, rfl, by simp, by simp, fun h => by omega, h1⟩
set_option maxHeartbeats 8000000 in
theorem privacyTurns_law {l0 l1 : List (List V)} (h0 : ∃ n, Typed Tryz.prog n T.parts [.dat l0]) (h1 : ∃ n, Typed Tryz.prog n T.lists [.dat l1]) : CallD Tryz.prog F.law36_PrivacyTurns [.dat l0, .dat l1] (· = .bool true) := by
 obtain ⟨l, rfl, la, ha⟩ := read_parts h0
 obtain ⟨t, rfl, lt, ht⟩ := read_lists h1
 refine callD_by F.law36_PrivacyTurns_ok ?_
 unfold F.law36_PrivacyTurns_c
 simp [setOb, List.filter_cons]
 refine callK_of (law35_Few la ha) (by simp) ?_
 cases fa : fewP l with
 | false => simp
 | true =>
 simp
 refine callK_of (law36_few lt ht) (by simp) ?_
 cases ft : fewL t with
 | false => simp
 | true =>
 obtain ⟨na, ol⟩ := fewP_ok fa ha
 obtain ⟨nt, lx, ot, mt⟩ := fewL_ok ft ht
 have ml := many_few10 fa
 have ol6 : ∀ p ∈ l, p.Ok 1000000 := fun p hp => (ol p hp).mono (by omega)
 simp
 refine wm_loop (fun g : Nat × Nat => ((((((Sl.empty.set 23 (.int .i64 g.2)).set 22 (.int .i64 l.length)).set 5 (grown g.1 g.2)).set 1 (lls t)).set 0 (pl l)), grownS g.1 1 g.2 ((List.range g.2).map (rowT1 t))))
  (fun g => g.2 ≤ l.length) (fun g => l.length - g.2) (0, 0) (by simp) ?_ ?_
 ·refine weak_obs ?_ (by simp [grown_zero, grownS_zero]) (by repeat (first | exact sin_empty | refine sin_set (by simp [grown_zero]) ?_)) (by simp [grown_zero, grownS_zero])
  simp only [grown_zero]
  repeat (first | exact sub_empty | refine sub_set (by simp) ?_)
 rintro ⟨o, i⟩ hi
 dsimp only at hi
 have hw : ∀ n, ∀ r ∈ (List.range n).map (rowT1 t), ∀ y ∈ r, ∀ p : Nat → Bool, y.within p = true := fun n r hr y hy p => by
  obtain ⟨k, _, rfl⟩ := List.mem_map.1 hr
  unfold rowT1 at hy
  split at hy <;> simp at hy <;> subst hy <;> simp [V.within]
 by_cases h1 : i < l.length
 ·have e1 : (List.range (i + 1)).map (rowT1 t) = (List.range i).map (rowT1 t) ++ [rowT1 t i] := by
   rw [List.range_succ, List.map_append]; rfl
  have fin : ∀ (o' : Nat) (S' : Sl) (τ : Sto), (S' 23 = some (.int .i64 ((i : Int) + 1)) ∧ S' 22 = some (.int .i64 l.length) ∧ S' 5 = some (.ref o' 0 (i + 1)) ∧ S' 1 = some (lls t) ∧ S' 0 = some (pl l)) → E.look τ o' = some ⟨.own, 1, (List.range (i + 1)).map (rowT1 t)⟩ →
   Again [] (fun g : Nat × Nat => ((((((Sl.empty.set 23 (.int .i64 g.2)).set 22 (.int .i64 l.length)).set 5 (grown g.1 g.2)).set 1 (lls t)).set 0 (pl l)), grownS g.1 1 g.2 ((List.range g.2).map (rowT1 t)))) (fun g => g.2 ≤ l.length) (fun g => l.length - g.2) (o, i) S' τ := by
   rintro o' S' τ ⟨s1, s2, s3, s4, s5⟩ hτ
   refine ⟨(o', i + 1), h1, by dsimp only; omega, ?_⟩
   dsimp only
   rw [grown_pos (by omega), grownS_pos (by omega)]
   refine weak_obs ?_ (by simp [hτ]) (by repeat (first | exact sin_empty | refine sin_set (by simp) ?_)) ?_
   ·exact sub_set s5 (sub_set s4 (sub_set s3 (sub_set s2 (sub_set s1 sub_empty))))
   ·intro p hp r hr y hy
    simp only [List.mem_singleton] at hp; subst hp
    exact hw _ r hr y hy _
  by_cases h2 : i < t.length
  ·have er : rowT1 t i = [pl t[i]] := by unfold rowT1; rw [if_pos h2, getD_lt h2]
   by_cases hi0 : i = 0
   ·subst hi0
    simp [h1, h2, grown_zero, grownS_zero, setOb, List.filter_cons]
    rw [wrap64 (by omega) (by omega)]
    refine fin 1 _ _ (by simp) ?_
    rw [e1, er]; simp [E.look]
   ·simp (disch := omega) [h1, h2, grown_pos hi0, grownS_pos hi0, setOb, List.filter_cons, Nat.max_eq_right, Nat.max_eq_left, if_neg, if_pos]
    rw [wrap64 (by omega) (by omega)]
    refine fin (o + 2) _ _ (by simp) ?_
    rw [e1, er]; simp [E.look]
  ·have er : rowT1 t i = [.nils] := by unfold rowT1; rw [if_neg h2]
   by_cases hi0 : i = 0
   ·subst hi0
    simp [h1, h2, grown_zero, grownS_zero, setOb, List.filter_cons]
    rw [wrap64 (by omega) (by omega)]
    refine fin 1 _ _ (by simp) ?_
    rw [e1, er]; simp [E.look]
   ·simp (disch := omega) [h1, h2, grown_pos hi0, grownS_pos hi0, setOb, List.filter_cons, Nat.max_eq_right, Nat.max_eq_left, if_neg, if_pos]
    rw [wrap64 (by omega) (by omega)]
    refine fin (o + 2) _ _ (by simp) ?_
    rw [e1, er]; simp [E.look]
 ·have hil : i = l.length := by omega
  subst hil
  have hT := privacy_Turn (l := l) (f := l) (t := t) na (by omega) (by omega) lx ol (fun p hp => (ol p hp).v) ot ml mt
  have hR := ref36_Turn (l := l) (f := allT t l.length) na (by rw [allT_len]; omega) (fun x hx => by rcases allT_mem hx with rfl | h; exact Nat.zero_le _; exact lx x h) ol (fun x hx => by
   rcases allT_mem hx with rfl | h
   ·simp
   ·exact ot x h)
  rw [turn_same ol ot] at hR
  have hN := privacy_TurnN (l := l) (by omega) ol6
  obtain ⟨R, e, hv, lR, oR, _⟩ := turnV_form (f := l) na lx ol ot
  rw [hv] at hT hR
  have hdat : toD (grownS o 1 l.length ((List.range l.length).map (rowT1 t))) 12 (grown o l.length) = some (lls (allT t l.length)) := by
   by_cases l0 : l.length = 0
   ·rw [l0]; rfl
   ·rw [grown_pos l0, grownS_pos l0, E.toD_refM (k := 11) (st := .own) (es := 1) (l := (List.range l.length).map (rowT1 t)) (l' := (List.range l.length).map fun k => [pl (t.getD k [])]) (by simp [E.look]) (by simp) (by simp) (by simp) (rows_toD _ 10 t _)]
    simp [lls, allT]
  generalize grownS o 1 l.length ((List.range l.length).map (rowT1 t)) = τ at *
  generalize grown o l.length = W at *
  generalize allT t l.length = Z at *
  simp [h1]
  refine callK_of hT (by simp) ?_
  simp [frz_nil]
  refine callK_of hR (by simp [hdat]) ?_
  simp
  refine callK_of hN (by simp; rfl) ?_
  simp
  refine callK_of (law36_sameParts (l := R) (by omega) fun p hp => ⟨(oR p hp).v, okMono (oR p hp).w (by omega)⟩) (by simp) ?_
  simp
  refine callK_of law36_alive (by simp) ?_
  simp
end Go.Proofs.YtipbefckimdkkaaGreat
