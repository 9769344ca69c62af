import Derived.Test.YtkockkfmjmheeaaGreatKF
namespace Go.Proofs.YtkockkfmjmheeaaGreat.F
open Go Go.Proofs Go.Proofs.YtkockkfmjmheeaaGreat.E Go.Proofs.YtkockkfmjmheeaaGreat.Q
abbrev ref15_accepted : Nat := 72
def ref15_accepted_c : MFn := ⟨13,(.seq (r [o 1 (.box (.t 0)),o 2 (.mv (.c (.bool false)))] [1]) (.seq (r [o 3 (.fA 0 (.t 1)),o 4 (.fA 0 (.t 3)),o 5 (.ld none (.t 4)),o 6 (.bin .eql (.t 5) (i 0)),o 7 (.mv (.t 6)),y 8 7 (.fA 6 (.t 1)),y 9 7 (.ld (some 3) (.t 8)),y 10 7 (.call 73 [(.t 9)]),y 11 7 (.bin .gtr (.t 10) (i 0)),o 12 (.pick (.t 7) (.t 11) (.c (.bool false))),o 2 (.mv (.t 12))] [2]) .ret)),[.t 2]⟩
theorem ref15_accepted_ok : cFn Tryz.prog (kps [[1],[2]]) [] 72 = some ref15_accepted_c := by kernel_rfl
abbrev ref15_Accepted : Nat := 38
def ref15_Accepted_c : MFn := ⟨24,(.seq (r [o 2 (.mv (.c .nils))] [0]) (.seq (r [o 3 (.mv (.c .nils))] [0,3]) (.seq (.seq (r [o 4 (.mv (i 0))] [0,3,4]) (.block 0 (.loop (.seq (.seq (r [o 5 (.mv (.t 4)),o 6 (.mv (.t 0)),o 7 (.lenS (.t 6)),o 8 (.bin .lss (.t 5) (.t 7))] [0,3,4,8]) (.cond (.t 8) .skip (.exit 0))) (.seq (.block 1 (.seq (r [o 11 (.mv (.t 0)),o 12 (.mv (.t 4)),o 13 (.ixA 9 (.t 11) (.t 12)),o 14 (.ld (some 9) (.t 13)),o 15 (.call 72 [(.t 14)])] [0,3,4,15]) (.cond (.t 15) (r [o 16 (.mv (.t 3)),o 17 (.mv (.t 0)),o 18 (.mv (.t 4)),o 19 (.ixA 9 (.t 17) (.t 18)),o 20 (.ld (some 9) (.t 19)),o 21 (.buildSl 9 1 [.int .i64 0,.int .i64 0,.int .i64 0,.int .i64 0,.nils,.nils,.bool false,.nils,.nils] [(0,(.t 20))]),o 22 (.app 9 136 (.t 16) (.t 21)),o 3 (.mv (.t 22))] [0,3,4]) .skip))) (r [o 9 (.mv (.t 4)),o 10 (.bin .add (.t 9) (i 1)),o 4 (.mv (.t 10))] [0,3,4])))))) (.seq (r [o 23 (.mv (.t 3)),o 2 (.mv (.t 23))] [2]) .ret)))),[.t 2]⟩
theorem ref15_Accepted_ok : cFn Tryz.prog (kps [[0],[0,3],[0,3,4],[0,3,4,8],[0,3,4],[0,3,4,15],[0,3,4],[2]]) [] 38 = some ref15_Accepted_c := by kernel_rfl
abbrev trace_Accepted : Nat := 33
def trace_Accepted_c : MFn := ⟨29,(.seq (r [o 2 (.mv (.c .nils))] [0]) (.seq (r [o 3 (.mv (.c .nils))] [0,3]) (.seq (.seq (r [o 6 (.mv (.t 0)),o 7 (.lenS (.t 6)),o 8 (.mv (i 0))] [3,6,7,8]) (.block 0 (.loop (.seq (r [o 9 (.bin .lss (.t 8) (.t 7))] [3,6,7,8,9]) (.seq (.cond (.t 9) .skip (.exit 0)) (.seq (.block 1 (.seq (r [o 10 (.ixA 9 (.t 6) (.t 8)),o 11 (.ld (some 9) (.t 10)),o 5 (.alloc [.int .i64 0,.int .i64 0,.int .i64 0,.int .i64 0,.nils,.nils,.bool false,.nils,.nils]),z (.st 9 (.t 5) (.t 11))] [3,5,6,7,8]) (.seq (r [o 12 (.fA 0 (.t 5)),o 13 (.fA 0 (.t 12)),o 14 (.ld none (.t 13)),o 15 (.bin .eql (.t 14) (i 0)),o 16 (.mv (.t 15)),y 17 16 (.fA 6 (.t 5)),y 18 16 (.ld (some 3) (.t 17)),y 19 16 (.call 56 [(.t 18)]),y 20 16 (.bin .gtr (.t 19) (i 0)),o 21 (.pick (.t 16) (.t 20) (.c (.bool false)))] [3,5,6,7,8,21]) (.cond (.t 21) (r [o 22 (.mv (.t 3)),o 23 (.ld (some 9) (.t 5)),o 24 (.buildSl 9 1 [.int .i64 0,.int .i64 0,.int .i64 0,.int .i64 0,.nils,.nils,.bool false,.nils,.nils] [(0,(.t 23))]),o 25 (.app 9 136 (.t 22) (.t 24)),o 3 (.mv (.t 25))] [3,6,7,8]) .skip)))) (r [o 26 (.bin .add (.t 8) (i 1)),o 8 (.mv (.t 26))] [3,6,7,8]))))))) (.seq (r [o 27 (.mv (.t 3)),o 28 (.call 70 [(.t 27)]),o 2 (.mv (.t 28))] [2]) .ret)))),[.t 2]⟩
theorem trace_Accepted_ok : cFn Tryz.prog (kps [[0],[0,3],[3,6,7,8],[3,6,7,8,9],[3,5,6,7,8],[3,5,6,7,8,21],[3,6,7,8],[3,6,7,8],[2]]) [] 33 = some trace_Accepted_c := by kernel_rfl
abbrev weigh_Worth : Nat := 13
def weigh_Worth_c : MFn := ⟨48,(.seq (r [o 2 (.alloc zR),o 3 (.mv (i 0))] [0,2]) (.seq (.seq (r [o 11 (.mv (.t 0)),o 12 (.call 22 [(.t 11),(.c (.clo 23 []))])] [0,2,12]) (.cond (.t 12) (.seq (r [o 13 (.build zR []),z (.st 3 (.t 2) (.t 13)),o 3 (.mv (i 1))] [2,3]) .ret) .skip)) (.seq (r [o 14 (.call 24 []),o 15 (.call 24 []),o 4 (.alloc zR),o 5 (.alloc zR),z (.st 3 (.t 4) (.t 14)),z (.st 3 (.t 5) (.t 15))] [0,2,4,5]) (.seq (r [o 16 (.mv (.t 0)),o 17 (.call 33 [(.t 16)]),o 6 (.mv (.t 17))] [2,4,5,6]) (.seq (.seq (r [o 18 (.mv (.t 6)),o 19 (.lenS (.t 18)),o 20 (.mv (i 0))] [2,4,5,6,18,19,20]) (.block 0 (.loop (.seq (r [o 21 (.bin .lss (.t 20) (.t 19))] [2,4,5,6,18,19,20,21]) (.seq (.cond (.t 21) .skip (.exit 0)) (.seq (.block 1 (.seq (r [o 22 (.ixA 9 (.t 18) (.t 20)),o 23 (.ld (some 9) (.t 22)),o 8 (.alloc [.int .i64 0,.int .i64 0,.int .i64 0,.int .i64 0,.nils,.nils,.bool false,.nils,.nils]),z (.st 9 (.t 8) (.t 23))] [2,4,5,6,8,18,19,20]) (r [o 24 (.ld (some 3) (.t 4)),o 25 (.fA 6 (.t 8)),o 26 (.ld (some 3) (.t 25)),o 27 (.callF 26 [(.t 24),(.t 26)]),o 28 (.ld (some 3) (.t 5)),o 29 (.ld (some 9) (.t 8)),o 30 (.callF 27 [(.t 29)]),o 31 (.callF 26 [(.t 28),(.t 30)]),z (.st 3 (.t 4) (.t 27)),z (.st 3 (.t 5) (.t 31))] [2,4,5,6,18,19,20]))) (r [o 32 (.bin .add (.t 20) (i 1)),o 20 (.mv (.t 32))] [2,4,5,6,18,19,20]))))))) (.seq (.seq (r [o 33 (.mv (.t 6)),o 34 (.lenS (.t 33)),o 35 (.bin .eql (.t 34) (i 0))] [2,4,5,35]) (.cond (.t 35) (.seq (r [o 36 (.build zR []),z (.st 3 (.t 2) (.t 36)),o 3 (.mv (i 31))] [2,3]) .ret) .skip)) (.seq (r [o 38 (.ld (some 3) (.t 4)),o 39 (.ld (some 3) (.t 4)),o 40 (.callF 35 [(.t 38),(.t 39)]),o 41 (.ld (some 3) (.t 5)),o 42 (.callF 34 [(.t 40),(.t 41)]),o 37 (.mv (.t 42)),o 43 (.ext (.t 37) 0),o 44 (.ext (.t 37) 1),o 9 (.alloc zR),z (.st 3 (.t 9) (.t 43)),o 10 (.mv (.t 44))] [2,9]) (.seq (r [o 45 (.ld (some 3) (.t 9)),o 46 (.callF 37 []),o 47 (.callF 36 [(.t 45),(.t 46)]),z (.st 3 (.t 2) (.t 47)),o 3 (.mv (i 0))] [2,3]) .ret)))))))),[.cell 2 (some 3),.t 3]⟩
theorem weigh_Worth_ok : cFn Tryz.prog (kps [[0,2],[0,2,12],[2,3],[0,2,4,5],[2,4,5,6],[2,4,5,6,18,19,20],[2,4,5,6,18,19,20,21],[2,4,5,6,8,18,19,20],[2,4,5,6,18,19,20],[2,4,5,6,18,19,20],[2,4,5,35],[2,3],[2,9],[2,3]]) [] 13 = some weigh_Worth_c := by kernel_rfl
abbrev ref31_Worth : Nat := 14
def ref31_Worth_c : MFn := ⟨49,(.seq (r [o 2 (.alloc zR),o 3 (.mv (i 0))] [0,2]) (.seq (.seq (r [o 11 (.mv (.t 0)),o 12 (.call 28 [(.t 11)]),o 13 (.un .not (.t 12))] [0,2,13]) (.cond (.t 13) (.seq (r [o 14 (.build zR []),z (.st 3 (.t 2) (.t 14)),o 3 (.mv (i 1))] [2,3]) .ret) .skip)) (.seq (r [o 15 (.mv (.t 0)),o 16 (.call 38 [(.t 15)]),o 4 (.mv (.t 16))] [2,4]) (.seq (.seq (r [o 17 (.mv (.t 4)),o 18 (.lenS (.t 17)),o 19 (.bin .eql (.t 18) (i 0))] [2,4,19]) (.cond (.t 19) (.seq (r [o 20 (.build zR []),z (.st 3 (.t 2) (.t 20)),o 3 (.mv (i 31))] [2,3]) .ret) .skip)) (.seq (r [o 21 (.call 29 []),o 22 (.call 29 []),o 5 (.alloc zR),o 6 (.alloc zR),z (.st 3 (.t 5) (.t 21)),z (.st 3 (.t 6) (.t 22))] [2,4,5,6]) (.seq (.seq (r [o 23 (.mv (.t 4)),o 24 (.lenS (.t 23)),o 25 (.mv (i 0))] [2,5,6,23,24,25]) (.block 0 (.loop (.seq (r [o 26 (.bin .lss (.t 25) (.t 24))] [2,5,6,23,24,25,26]) (.seq (.cond (.t 26) .skip (.exit 0)) (.seq (.block 1 (.seq (r [o 27 (.ixA 9 (.t 23) (.t 25)),o 28 (.ld (some 9) (.t 27)),o 8 (.alloc [.int .i64 0,.int .i64 0,.int .i64 0,.int .i64 0,.nils,.nils,.bool false,.nils,.nils]),z (.st 9 (.t 8) (.t 28))] [2,5,6,8,23,24,25]) (.seq (r [o 29 (.ld (some 3) (.t 5)),o 30 (.fA 6 (.t 8)),o 31 (.ld (some 3) (.t 30)),o 32 (.call 31 [(.t 29),(.t 31)]),z (.st 3 (.t 5) (.t 32))] [2,5,6,8,23,24,25]) (r [o 33 (.ld (some 3) (.t 6)),o 34 (.ld (some 9) (.t 8)),o 35 (.callF 32 [(.t 34)]),o 36 (.callF 31 [(.t 33),(.t 35)]),z (.st 3 (.t 6) (.t 36))] [2,5,6,23,24,25])))) (r [o 37 (.bin .add (.t 25) (i 1)),o 25 (.mv (.t 37))] [2,5,6,23,24,25]))))))) (.seq (r [o 39 (.ld (some 3) (.t 5)),o 40 (.ld (some 3) (.t 5)),o 41 (.callF 40 [(.t 39),(.t 40)]),o 42 (.ld (some 3) (.t 6)),o 43 (.callF 39 [(.t 41),(.t 42)]),o 38 (.mv (.t 43)),o 44 (.ext (.t 38) 0),o 45 (.ext (.t 38) 1),o 9 (.alloc zR),z (.st 3 (.t 9) (.t 44)),o 10 (.mv (.t 45))] [2,9]) (.seq (r [o 46 (.ld (some 3) (.t 9)),o 47 (.callF 42 []),o 48 (.callF 41 [(.t 46),(.t 47)]),z (.st 3 (.t 2) (.t 48)),o 3 (.mv (i 0))] [2,3]) .ret)))))))),[.cell 2 (some 3),.t 3]⟩
theorem ref31_Worth_ok : cFn Tryz.prog (kps [[0,2],[0,2,13],[2,3],[2,4],[2,4,19],[2,3],[2,4,5,6],[2,5,6,23,24,25],[2,5,6,23,24,25,26],[2,5,6,8,23,24,25],[2,5,6,8,23,24,25],[2,5,6,23,24,25],[2,5,6,23,24,25],[2,9],[2,3]]) [] 14 = some ref31_Worth_c := by kernel_rfl
end Go.Proofs.YtkockkfmjmheeaaGreat.F

namespace Go.Proofs.YtkockkfmjmheeaaGreat
open Go Go.Proofs Go.Proofs.YtkockkfmjmheeaaGreat.E
set_option linter.unusedSimpArgs false
set_option linter.unusedVariables false
theorem sgn_pos {a : Rat} : 0 < sgnR a ↔ 0 < a := by
 have := @sgnR_pos_iff a
 constructor
 ·intro h; by_cases c : 0 < a
  ·exact c
  ·have := this.2 c; omega
 ·intro h; by_cases c : sgnR a ≤ 0
  ·exact absurd h (this.1 c)
  ·omega
theorem ref15_accepted {r : Rn} (ho : r.Ok) : CallD Tryz.prog F.ref15_accepted [.agg (rnC r)] (· = .bool (decide (r.k = 0) && decide (0 < r.w.q))) := by
 refine callD_by F.ref15_accepted_ok ?_
 unfold F.ref15_accepted_c
 simp [setOb, List.filter_cons]
 by_cases c : r.k = 0
 case neg => simp [c]
 simp [c]
 refine callK_of (ref02_Sign (ho.w.mono (by omega))) (by simp [toD_rawc, raw_v]) ?_
 simp [sgn_pos]
set_option maxHeartbeats 4000000 in
theorem ref15_Accepted {l : List Rn} (hl : l.length ≤ 60) (ho : ∀ r ∈ l, r.Ok) : CallD Tryz.prog F.ref15_Accepted [rl l] (· = rl (accR l)) := by
 refine callD_by F.ref15_Accepted_ok ?_
 unfold F.ref15_Accepted_c
 simp
 refine wm_loop (fun g : Nat × Nat => ((((Sl.empty.set 4 (.int .i64 g.2)).set 3 (grown g.1 (accR (l.take g.2)).length)).set 0 (rl l)), grownS g.1 9 (accR (l.take g.2)).length ((accR (l.take g.2)).map rnC)))
  (fun g => g.2 ≤ l.length) (fun g => l.length - g.2) (0, 0) (by simp) ?_ ?_
 ·refine weak_obs ?_ (by simp [accR, grownS_zero]) (by simp only [List.take_zero, accR, List.filter_nil, List.length_nil, grown_zero]; repeat (first | exact sin_empty | refine sin_set (by simp) ?_)) (by simp [accR, grownS_zero])
  simp only [List.take_zero, accR, List.filter_nil, List.length_nil, grown_zero]
  repeat (first | exact sub_empty | refine sub_set (by simp) ?_)
 rintro ⟨o, i⟩ hi
 dsimp only at hi
 by_cases h1 : i < l.length
 ·have hst := accR_take h1
  have lA := accR_len (l.take i)
  rw [List.length_take] at lA
  have fin : ∀ (o' : Nat) (S' : Sl) (τ : Sto), (S' 4 = some (.int .i64 ((i : Int) + 1)) ∧ S' 3 = some (grown o' (accR (l.take (i + 1))).length) ∧ S' 0 = some (rl l)) → (accR (l.take (i + 1)) ≠ [] → E.look τ o' = some ⟨.own, 9, (accR (l.take (i + 1))).map rnC⟩) →
   Again [] (fun g : Nat × Nat => ((((Sl.empty.set 4 (.int .i64 g.2)).set 3 (grown g.1 (accR (l.take g.2)).length)).set 0 (rl l)), grownS g.1 9 (accR (l.take g.2)).length ((accR (l.take g.2)).map rnC))) (fun g => g.2 ≤ l.length) (fun g => l.length - g.2) (o, i) S' τ := by
   rintro o' S' τ ⟨s1, s2, s3⟩ hτ
   refine ⟨(o', i + 1), h1, by dsimp only; omega, ?_⟩
   dsimp only
   generalize accR (l.take (i + 1)) = B at *
   by_cases hB : B = []
   ·subst hB
    simp only [List.length_nil, grown_zero, grownS_zero] at s2 ⊢
    refine weak_obs ?_ (by simp) (by repeat (first | exact sin_empty | refine sin_set (by simp) ?_)) (by simp)
    exact sub_set s3 (sub_set s2 (sub_set s1 sub_empty))
   ·have n0 : B.length ≠ 0 := fun e => hB (List.length_eq_zero_iff.1 e)
    rw [grown_pos n0] at s2 ⊢
    rw [grownS_pos n0]
    refine weak_obs ?_ (by simp [hτ hB]) (by repeat (first | exact sin_empty | refine sin_set (by simp) ?_)) ?_
    ·exact sub_set s3 (sub_set s2 (sub_set s1 sub_empty))
    ·intro p hp r hr y hy
     simp only [List.mem_singleton] at hp; subst hp
     obtain ⟨c, _, rfl⟩ := List.mem_map.1 hr
     exact rnC_within _ _ y hy
  have acc := ref15_accepted (ho _ (List.getElem_mem h1))
  generalize hA : accR (l.take i) = A at *
  by_cases hA0 : A = []
  ·subst hA0
   simp only [List.length_nil, grown_zero, grownS_zero]
   simp [h1, setOb, List.filter_cons]
   refine callK_of acc (by simp [rnC_toD]) ?_
   by_cases c : l[i].k = 0 ∧ 0 < l[i].w.q
   ·rw [if_pos c] at hst
    simp [c.1, c.2, h1, setOb, List.filter_cons]
    rw [wrap64 (by omega) (by omega)]
    exact fin 1 _ _ (by simp [hst, grown_pos]) (fun _ => by rw [hst]; simp [E.look])
   ·rw [if_neg c] at hst
    have c' : (decide (l[i].k = 0) && decide (0 < l[i].w.q)) = false := by
     cases h : (decide (l[i].k = 0) && decide (0 < l[i].w.q)) with
     | false => rfl
     | true => simp at h; exact (c h).elim
    simp [c', h1, setOb, List.filter_cons]
    rw [wrap64 (by omega) (by omega)]
    exact fin 0 _ _ (by simp [hst, grown_zero]) (fun h => (h hst).elim)
  ·have n0 : A.length ≠ 0 := fun e => hA0 (List.length_eq_zero_iff.1 e)
   rw [grown_pos n0, grownS_pos n0]
   simp [h1, setOb, List.filter_cons]
   refine callK_of acc (by simp [rnC_toD]) ?_
   by_cases c : l[i].k = 0 ∧ 0 < l[i].w.q
   ·rw [if_pos c] at hst
    simp (disch := omega) [c.1, c.2, h1, setOb, List.filter_cons, Nat.max_eq_right, Nat.max_eq_left, if_neg, if_pos]
    rw [wrap64 (by omega) (by omega)]
    exact fin (o + 2) _ _ (by simp [hst, grown_pos]) (fun _ => by rw [hst]; simp [E.look])
   ·rw [if_neg c] at hst
    have c' : (decide (l[i].k = 0) && decide (0 < l[i].w.q)) = false := by
     cases h : (decide (l[i].k = 0) && decide (0 < l[i].w.q)) with
     | false => rfl
     | true => simp at h; exact (c h).elim
    simp [c', h1, setOb, List.filter_cons]
    rw [wrap64 (by omega) (by omega)]
    exact fin o _ _ (by simp [hst, grown_pos n0]) (fun _ => by rw [hst]; simp [E.look])
 ·have hil : i = l.length := by omega
  subst hil
  rw [List.take_length]
  simp [h1]
  rw [toD_grown (k := 11) (st := .own) (es := 9) (l := (accR l).map rnC) (fun h => by simp [grownS_pos h, E.look]) (by simp) (by simp) (by simp) (fun r hr => by obtain ⟨x, _, rfl⟩ := List.mem_map.1 hr; exact rnC_toD _ _ _)]
set_option maxHeartbeats 4000000 in
theorem trace_Accepted {l : List Rn} (hl : l.length ≤ 60) (ho : ∀ r ∈ l, r.Ok) : CallD Tryz.prog F.trace_Accepted [rl l] (· = rl (accR l)) := by
 refine callD_by F.trace_Accepted_ok ?_
 unfold F.trace_Accepted_c
 simp
 refine wm_loop (fun g : Nat × Nat => (((((Sl.empty.set 8 (.int .i64 g.2)).set 7 (.int .i64 l.length)).set 6 (rl l)).set 3 (grown g.1 (accR (l.take g.2)).length)), grownS g.1 9 (accR (l.take g.2)).length ((accR (l.take g.2)).map rnC)))
  (fun g => g.2 ≤ l.length) (fun g => l.length - g.2) (0, 0) (by simp) ?_ ?_
 ·refine weak_obs ?_ (by simp [accR, grownS_zero]) (by simp only [List.take_zero, accR, List.filter_nil, List.length_nil, grown_zero]; repeat (first | exact sin_empty | refine sin_set (by simp) ?_)) (by simp [accR, grownS_zero])
  simp only [List.take_zero, accR, List.filter_nil, List.length_nil, grown_zero]
  repeat (first | exact sub_empty | refine sub_set (by simp) ?_)
 rintro ⟨o, i⟩ hi
 dsimp only at hi
 by_cases h1 : i < l.length
 ·have hst := accR_take h1
  have lA := accR_len (l.take i)
  rw [List.length_take] at lA
  have fin : ∀ (o' : Nat) (S' : Sl) (τ : Sto), (S' 8 = some (.int .i64 ((i : Int) + 1)) ∧ S' 7 = some (.int .i64 l.length) ∧ S' 6 = some (rl l) ∧ S' 3 = some (grown o' (accR (l.take (i + 1))).length)) → (accR (l.take (i + 1)) ≠ [] → E.look τ o' = some ⟨.own, 9, (accR (l.take (i + 1))).map rnC⟩) →
   Again [] (fun g : Nat × Nat => (((((Sl.empty.set 8 (.int .i64 g.2)).set 7 (.int .i64 l.length)).set 6 (rl l)).set 3 (grown g.1 (accR (l.take g.2)).length)), grownS g.1 9 (accR (l.take g.2)).length ((accR (l.take g.2)).map rnC))) (fun g => g.2 ≤ l.length) (fun g => l.length - g.2) (o, i) S' τ := by
   rintro o' S' τ ⟨s1, s2, s3, s4⟩ hτ
   refine ⟨(o', i + 1), h1, by dsimp only; omega, ?_⟩
   dsimp only
   generalize accR (l.take (i + 1)) = B at *
   by_cases hB : B = []
   ·subst hB
    simp only [List.length_nil, grown_zero, grownS_zero] at s4 ⊢
    refine weak_obs ?_ (by simp) (by repeat (first | exact sin_empty | refine sin_set (by simp) ?_)) (by simp)
    exact sub_set s4 (sub_set s3 (sub_set s2 (sub_set s1 sub_empty)))
   ·have n0 : B.length ≠ 0 := fun e => hB (List.length_eq_zero_iff.1 e)
    rw [grown_pos n0] at s4 ⊢
    rw [grownS_pos n0]
    refine weak_obs ?_ (by simp [hτ hB]) (by repeat (first | exact sin_empty | refine sin_set (by simp) ?_)) ?_
    ·exact sub_set s4 (sub_set s3 (sub_set s2 (sub_set s1 sub_empty)))
    ·intro p hp r hr y hy
     simp only [List.mem_singleton] at hp; subst hp
     obtain ⟨c, _, rfl⟩ := List.mem_map.1 hr
     exact rnC_within _ _ y hy
  have hsg := ratio_Sign ((ho _ (List.getElem_mem h1)).w.mono (show 8 ≤ 2 ^ 33 by omega))
  generalize hA : accR (l.take i) = A at *
  by_cases hA0 : A = []
  ·subst hA0
   simp only [List.length_nil, grown_zero, grownS_zero]
   by_cases c0 : l[i].k = 0
   case neg =>
    rw [if_neg fun h => c0 h.1] at hst
    simp [h1, c0, setOb, List.filter_cons]
    rw [wrap64 (by omega) (by omega)]
    exact fin 0 _ _ (by simp [hst, grown_zero]) (fun h => (h hst).elim)
   simp [h1, c0, setOb, List.filter_cons]
   refine callK_of hsg (by simp [toD_rawc, raw_v]) ?_
   by_cases c1 : 0 < l[i].w.q
   ·rw [if_pos ⟨c0, c1⟩] at hst
    simp [sgn_pos, c1, h1, setOb, List.filter_cons]
    rw [wrap64 (by omega) (by omega)]
    exact fin 2 _ _ (by simp [hst, grown_pos]) (fun _ => by rw [hst]; simp [E.look])
   ·rw [if_neg fun h => c1 h.2] at hst
    have c1' : ¬ 0 < sgnR l[i].w.q := fun h => c1 (sgn_pos.1 h)
    simp [c1', h1, setOb, List.filter_cons]
    rw [wrap64 (by omega) (by omega)]
    exact fin 0 _ _ (by simp [hst, grown_zero]) (fun h => (h hst).elim)
  ·have n0 : A.length ≠ 0 := fun e => hA0 (List.length_eq_zero_iff.1 e)
   rw [grown_pos n0, grownS_pos n0]
   by_cases c0 : l[i].k = 0
   case neg =>
    rw [if_neg fun h => c0 h.1] at hst
    simp (disch := omega) [h1, c0, setOb, List.filter_cons, Nat.max_eq_right, Nat.max_eq_left, if_neg, if_pos]
    rw [wrap64 (by omega) (by omega)]
    exact fin o _ _ (by simp [hst, grown_pos n0]) (fun _ => by rw [hst]; simp [E.look])
   simp (disch := omega) [h1, c0, setOb, List.filter_cons, Nat.max_eq_right, Nat.max_eq_left, if_neg, if_pos]
   refine callK_of hsg (by simp [toD_rawc, raw_v]) ?_
   by_cases c1 : 0 < l[i].w.q
   ·rw [if_pos ⟨c0, c1⟩] at hst
    simp (disch := omega) [sgn_pos, c1, h1, setOb, List.filter_cons, Nat.max_eq_right, Nat.max_eq_left, if_neg, if_pos]
    rw [wrap64 (by omega) (by omega)]
    exact fin (o + 3) _ _ (by simp [hst, grown_pos]) (fun _ => by rw [hst]; simp [E.look])
   ·rw [if_neg fun h => c1 h.2] at hst
    have c1' : ¬ 0 < sgnR l[i].w.q := fun h => c1 (sgn_pos.1 h)
    simp (disch := omega) [c1', h1, setOb, List.filter_cons, Nat.max_eq_right, Nat.max_eq_left, if_neg, if_pos]
    rw [wrap64 (by omega) (by omega)]
    exact fin o _ _ (by simp [hst, grown_pos n0]) (fun _ => by rw [hst]; simp [E.look])
 ·have hil : i = l.length := by omega
  subst hil
  rw [List.take_length]
  have lA := accR_len l
  have hc := own_Runs (l := accR l) (by omega) fun t ht => own_Run (ho t (accR_mem ht).1)
  have hd : toD (grownS o 9 (accR l).length ((accR l).map rnC)) 12 (grown o (accR l).length) = some (rl (accR l)) :=
   toD_grown (k := 11) (st := .own) (es := 9) (l := (accR l).map rnC) (fun h => by simp [grownS_pos h, E.look]) (by simp) (by simp) (by simp) (fun r hr => by obtain ⟨x, _, rfl⟩ := List.mem_map.1 hr; exact rnC_toD _ _ _)
  generalize grownS o 9 (accR l).length ((accR l).map rnC) = τ at *
  generalize grown o (accR l).length = W at *
  simp [h1]
  refine callK_of hc (by simp [hd]) ?_
  simp
def wor (l : List Rn) : Rat := if 1 < sumW l * sumW l / sumS2 l then 1 else sumW l * sumW l / sumS2 l
def worV (l : List Rn) : V := if l.all rOk then (if (accR l).length = 0 then .tup [zeroW, .int .i64 31] else .tup [ratV (wor (accR l)), .int .i64 0]) else .tup [zeroW, .int .i64 1]
theorem sumW_take {l : List Rn} {i : Nat} (h : i < l.length) : sumW (l.take (i + 1)) = sumW (l.take i) + l[i].w.q := sumBy_take h
theorem sumSq_take {l : List Rn} {i : Nat} (h : i < l.length) : sumS2 (l.take (i + 1)) = sumS2 (l.take i) + sqQ l[i] := sumBy_take h
theorem sumW_fits {l : List Rn} (hl : l.length ≤ 60) (ho : ∀ r ∈ l, r.Ok) : Fits (sumW l) 600 := (sumR_fits (k := 8) (fun r hr => Raw.fits (ho r hr).w (by omega)) hl).mono (by omega)
theorem sumSq_fits {l : List Rn} (hl : l.length ≤ 60) (ho : ∀ r ∈ l, r.Ok) (ha : ∀ r ∈ l, rOk r = true) : Fits (sumS2 l) 3000 := (sumR_fits (k := 41) (fun r hr => sq_fits (ho r hr) (ha r hr)) hl).mono (by omega)
theorem sumBy_posW {f : Rn → Rat} : ∀ {l : List Rn}, l ≠ [] → (∀ r ∈ l, 0 < f r) → 0 < sumBy f l
 | [], h, _ => (h rfl).elim
 | [r], _, h => by rw [sumBy_cons, sumBy_nil]; have := h r (by simp); grind
 | r :: s :: l, _, h => by
   rw [sumBy_cons]
   have h1 := h r (by simp)
   have h2 := sumBy_posW (f := f) (l := s :: l) (by simp) fun x hx => h x (by simp [hx])
   grind
theorem sq_pos {r : Rn} (h : rOk r = true) (hw : 0 < r.w.q) : 0 < sqQ r := by
 unfold sqQ
 rw [Rat.div_def]
 exact Rat.mul_pos (Rat.mul_pos hw hw) (Rat.inv_pos.2 (prQ_pos h))
theorem acc_sq {l : List Rn} (ha : ∀ r ∈ l, rOk r = true) (hn : (accR l).length ≠ 0) : sumS2 (accR l) ≠ 0 := by
 have := sumBy_posW (f := sqQ) (l := accR l) (fun e => hn (by rw [e]; rfl)) fun r hr => sq_pos (ha r (accR_mem hr).1) (accR_mem hr).2.2
 unfold sumS2
 grind
theorem in3 {A B C : List V} (hA : ∀ z ∈ A, ∀ f : Nat → Bool, z.within f = true) (hB : ∀ z ∈ B, ∀ f : Nat → Bool, z.within f = true) (hC : ∀ z ∈ C, ∀ f : Nat → Bool, z.within f = true) : ∀ p ∈ [((2 : Nat), (⟨.own, 3, [A]⟩ : Ob)), (1, ⟨.own, 3, [B]⟩), (0, ⟨.own, 3, [C]⟩)], ∀ r ∈ p.2.cells, ∀ y ∈ r, ∀ f : Nat → Bool, y.within f = true := by
 intro p hp r hr y hy f
 simp only [List.mem_cons, List.not_mem_nil, or_false] at hp
 rcases hp with rfl | rfl | rfl <;> (simp only [List.mem_singleton] at hr; subst hr)
 ·exact hA y hy f
 ·exact hB y hy f
 ·exact hC y hy f
theorem zero3 : ∀ z ∈ [V.bool false, .nils, .nils], ∀ f : Nat → Bool, z.within f = true := by simp [V.within]
theorem rawc_withinA (x : Raw) : ∀ z ∈ x.c, ∀ f : Nat → Bool, z.within f = true := fun z hz f => rawc_within x z hz
set_option maxHeartbeats 8000000 in
theorem weigh_Worth {l : List Rn} (hl : l.length ≤ 60) (ho : ∀ r ∈ l, r.Ok) : CallD Tryz.prog F.weigh_Worth [rl l] (· = worV l) := by
 refine callD_by F.weigh_Worth_ok ?_
 unfold F.weigh_Worth_c worV
 simp [setOb, List.filter_cons]
 refine callK_of (contains_Run hl ho) (by simp; rfl) ?_
 cases ha : l.all rOk with
 | false =>
   have hn := List.all_eq_false.1 ha
   simp [setOb, List.filter_cons]
   exact fun h => by obtain ⟨x, hx, hf⟩ := hn; exact absurd (h x hx) hf
 | true =>
 have ha' : ∀ r ∈ l, rOk r = true := List.all_eq_true.1 ha
 have lA := accR_len l
 have oA : ∀ r ∈ accR l, r.Ok := fun r hr => ho r (accR_mem hr).1
 have kA : ∀ r ∈ accR l, rOk r = true := fun r hr => ha' r (accR_mem hr).1
 have sn := acc_sq (l := l) ha'
 have hacc := trace_Accepted hl ho
 simp [setOb, List.filter_cons]
 refine callK_of ratio_Zero (by simp) ?_
 simp [ratV, raw_v, setOb, List.filter_cons]
 refine callK_of ratio_Zero (by simp) ?_
 simp [ratV, raw_v, setOb, List.filter_cons]
 refine callK_of hacc (by simp) ?_
 generalize accR l = A at *
 simp [setOb, List.filter_cons]
 refine wm_loop (fun g : Nat => ((((((((Sl.empty.set 20 (.int .i64 g)).set 19 (.int .i64 A.length)).set 18 (rl A)).set 6 (rl A)).set 5 (.ptr 2 0 0)).set 4 (.ptr 1 0 0)).set 2 (.ptr 0 0 0)), [(2, ⟨.own, 3, [(rawOf (sumS2 (A.take g))).c]⟩), (1, ⟨.own, 3, [(rawOf (sumW (A.take g))).c]⟩), (0, ⟨.own, 3, [[.bool false, .nils, .nils]]⟩)])) (fun g => g ≤ A.length) (fun g => A.length - g) 0 (by simp) ?_ ?_
 ·refine weak_obs ?_ (by simp [sumS2, sumW, sumBy]) (by repeat (first | exact sin_empty | refine sin_set (by simp [V.within]) ?_)) (fun p hp r hr y hy => in3 (rawc_withinA _) (rawc_withinA _) zero3 p hp r hr y hy _)
  repeat (first | exact sub_empty | refine sub_set (by simp) ?_)
 intro i hi
 by_cases h1 : i < A.length
 ·have hr := oA _ (List.getElem_mem h1)
  have hk := kA _ (List.getElem_mem h1)
  have e1 := sumW_take h1
  have e2 := sumSq_take h1
  have lt : (A.take i).length ≤ 60 := by rw [List.length_take]; omega
  have f1 := sumW_fits lt fun r hr => oA r (List.mem_of_mem_take hr)
  have f2 := sumSq_fits lt (fun r hr => oA r (List.mem_of_mem_take hr)) fun r hr => kA r (List.mem_of_mem_take hr)
  have f3 := sq_fits hr hk
  simp [h1, setOb, List.filter_cons]
  refine callFK_of (ratio_Add (rawOf_ok (f1.mono (by omega))) (hr.w.mono (by omega))) (by simp [toD_rawc, raw_v]) ?_
  rw [rawOf_q]
  simp [ratV, raw_v, setOb, List.filter_cons]
  refine callFK_of (weigh_square hr hk) (by simp [rnC_toD]) ?_
  simp [ratV, raw_v]
  refine callFK_of (ratio_Add (rawOf_ok (f2.mono (by omega))) (rawOf_ok (f3.mono (by omega)))) (by simp [toD_rawc, raw_v]) ?_
  rw [rawOf_q, rawOf_q]
  simp [ratV, raw_v, setOb, List.filter_cons]
  rw [wrap64 (by omega) (by omega)]
  refine ⟨i + 1, h1, by dsimp only; omega, ?_⟩
  refine weak_obs ?_ (by simp [e1, e2]) (by repeat (first | exact sin_empty | refine sin_set (by simp [V.within]) ?_)) (fun p hp r hr y hy => in3 (rawc_withinA _) (rawc_withinA _) zero3 p hp r hr y hy _)
  repeat (first | exact sub_empty | refine sub_set (by simp) ?_)
 ·have hil : i = A.length := by omega
  subst hil
  rw [List.take_length]
  have f1 := sumW_fits (l := A) (by omega) oA
  have f2 := sumSq_fits (l := A) (by omega) oA kA
  have fm := fits_mul f1 f1 (by omega)
  have fd := fits_divW fm f2 (by omega)
  by_cases a0 : A.length = 0
  case pos =>
   have e : A = [] := List.length_eq_zero_iff.1 a0
   subst e
   simp [setOb, List.filter_cons]
   first | exact ha' | (rw [if_pos ha'])
  have a0i : ¬ ((A.length : Int) = 0) := by omega
  simp [h1, a0, a0i, setOb, List.filter_cons]
  refine callFK_of (ratio_Mul (rawOf_ok (f1.mono (by omega))) (rawOf_ok (f1.mono (by omega)))) (by simp [toD_rawc, raw_v]) ?_
  rw [rawOf_q]
  simp [ratV, raw_v]
  refine callFK_of (ratio_Div (rawOf_ok (fm.mono (by omega))) (rawOf_ok (f2.mono (by omega)))) (by simp [toD_rawc, raw_v]) ?_
  rw [rawOf_q, rawOf_q, divR, if_neg (sn a0)]
  simp [setOb, List.filter_cons, ratV, raw_v]
  refine callFK_of ratio_One (by simp) ?_
  simp [ratV, raw_v]
  refine callFK_of (ratio_Least (rawOf_ok (fd.mono (by omega))) (rawOf_ok (fits_one.mono (by omega)))) (by simp [toD_rawc, raw_v]) ?_
  rw [rawOf_q, rawOf_q]
  simp [setOb, List.filter_cons, ratV, raw_v, toD_rawc, wor]
  have An : ¬ A = [] := fun e => a0 (by rw [e]; rfl)
  rw [if_pos ha', if_neg An]
set_option maxHeartbeats 8000000 in
theorem ref31_Worth {l : List Rn} (hl : l.length ≤ 60) (ho : ∀ r ∈ l, r.Ok) : CallD Tryz.prog F.ref31_Worth [rl l] (· = worV l) := by
 refine callD_by F.ref31_Worth_ok ?_
 unfold F.ref31_Worth_c worV
 simp [setOb, List.filter_cons]
 refine callK_of (ref31_priors hl ho) (by simp) ?_
 cases ha : l.all rOk with
 | false =>
   have hn := List.all_eq_false.1 ha
   simp [setOb, List.filter_cons]
   exact fun h => by obtain ⟨x, hx, hf⟩ := hn; exact absurd (h x hx) hf
 | true =>
 have ha' : ∀ r ∈ l, rOk r = true := List.all_eq_true.1 ha
 have lA := accR_len l
 have oA : ∀ r ∈ accR l, r.Ok := fun r hr => ho r (accR_mem hr).1
 have kA : ∀ r ∈ accR l, rOk r = true := fun r hr => ha' r (accR_mem hr).1
 have sn := acc_sq (l := l) ha'
 have hacc := ref15_Accepted hl ho
 simp [setOb, List.filter_cons]
 refine callK_of hacc (by simp) ?_
 generalize accR l = A at *
 by_cases a0 : A.length = 0
 case pos =>
  have e : A = [] := List.length_eq_zero_iff.1 a0
  subst e
  simp [setOb, List.filter_cons]
  first | exact ha' | (rw [if_pos ha'])
 have a0i : ¬ ((A.length : Int) = 0) := by omega
 simp [a0, a0i, setOb, List.filter_cons]
 refine callK_of ref02_Zero (by simp) ?_
 simp [ratV, raw_v, setOb, List.filter_cons]
 refine callK_of ref02_Zero (by simp) ?_
 simp [ratV, raw_v, setOb, List.filter_cons]
 refine wm_loop (fun g : Nat => (((((((Sl.empty.set 25 (.int .i64 g)).set 24 (.int .i64 A.length)).set 23 (rl A)).set 6 (.ptr 2 0 0)).set 5 (.ptr 1 0 0)).set 2 (.ptr 0 0 0)), [(2, ⟨.own, 3, [(rawOf (sumS2 (A.take g))).c]⟩), (1, ⟨.own, 3, [(rawOf (sumW (A.take g))).c]⟩), (0, ⟨.own, 3, [[.bool false, .nils, .nils]]⟩)])) (fun g => g ≤ A.length) (fun g => A.length - g) 0 (by simp) ?_ ?_
 ·refine weak_obs ?_ (by simp [sumS2, sumW, sumBy]) (by repeat (first | exact sin_empty | refine sin_set (by simp [V.within]) ?_)) (fun p hp r hr y hy => in3 (rawc_withinA _) (rawc_withinA _) zero3 p hp r hr y hy _)
  repeat (first | exact sub_empty | refine sub_set (by simp) ?_)
 intro i hi
 by_cases h1 : i < A.length
 ·have hr := oA _ (List.getElem_mem h1)
  have hk := kA _ (List.getElem_mem h1)
  have e1 := sumW_take h1
  have e2 := sumSq_take h1
  have lt : (A.take i).length ≤ 60 := by rw [List.length_take]; omega
  have f1 := sumW_fits lt fun r hr => oA r (List.mem_of_mem_take hr)
  have f2 := sumSq_fits lt (fun r hr => oA r (List.mem_of_mem_take hr)) fun r hr => kA r (List.mem_of_mem_take hr)
  have f3 := sq_fits hr hk
  simp [h1, setOb, List.filter_cons]
  refine callK_of (ref02_Add (rawOf_ok (f1.mono (by omega))) (hr.w.mono (by omega))) (by simp [toD_rawc, raw_v]) ?_
  rw [rawOf_q]
  simp [ratV, raw_v, setOb, List.filter_cons]
  refine callFK_of (ref31_square hr hk) (by simp [rnC_toD]) ?_
  simp [ratV, raw_v]
  refine callFK_of (ref02_Add (rawOf_ok (f2.mono (by omega))) (rawOf_ok (f3.mono (by omega)))) (by simp [toD_rawc, raw_v]) ?_
  rw [rawOf_q, rawOf_q]
  simp [ratV, raw_v, setOb, List.filter_cons]
  rw [wrap64 (by omega) (by omega)]
  refine ⟨i + 1, h1, by dsimp only; omega, ?_⟩
  refine weak_obs ?_ (by simp [e1, e2]) (by repeat (first | exact sin_empty | refine sin_set (by simp [V.within]) ?_)) (fun p hp r hr y hy => in3 (rawc_withinA _) (rawc_withinA _) zero3 p hp r hr y hy _)
  repeat (first | exact sub_empty | refine sub_set (by simp) ?_)
 ·have hil : i = A.length := by omega
  subst hil
  rw [List.take_length]
  have f1 := sumW_fits (l := A) (by omega) oA
  have f2 := sumSq_fits (l := A) (by omega) oA kA
  have fm := fits_mul f1 f1 (by omega)
  have fd := fits_divW fm f2 (by omega)
  have a0i : ¬ ((A.length : Int) = 0) := by omega
  simp [h1,  setOb, List.filter_cons]
  refine callFK_of (ref02_Mul (rawOf_ok (f1.mono (by omega))) (rawOf_ok (f1.mono (by omega)))) (by simp [toD_rawc, raw_v]) ?_
  rw [rawOf_q]
  simp [ratV, raw_v]
  refine callFK_of (ref02_Div (rawOf_ok (fm.mono (by omega))) (rawOf_ok (f2.mono (by omega)))) (by simp [toD_rawc, raw_v]) ?_
  rw [rawOf_q, rawOf_q, divR, if_neg (sn a0)]
  simp [setOb, List.filter_cons, ratV, raw_v]
  refine callFK_of ref02_One (by simp) ?_
  simp [ratV, raw_v]
  refine callFK_of (ref02_Least (rawOf_ok (fd.mono (by omega))) (rawOf_ok (fits_one.mono (by omega)))) (by simp [toD_rawc, raw_v]) ?_
  rw [rawOf_q, rawOf_q]
  simp [setOb, List.filter_cons, ratV, raw_v, toD_rawc, wor]
  have An : ¬ A = [] := fun e => a0 (by rw [e]; rfl)
  rw [if_pos ha', if_neg An]
end Go.Proofs.YtkockkfmjmheeaaGreat
