/- Joined texts: CRefB, CPut, CPair, CRBest. -/
import Derived.Test.YtnneehniendnfaaGreatGU
import Derived.Test.YtnneehniendnfaaGreatGS
/- Functions of the program, as the engine reads them; each is held against the translation. -/
namespace Go.Proofs.YtnneehniendnfaaGreat.F
open Go Go.Proofs Go.Proofs.YtnneehniendnfaaGreat.E Go.Proofs.YtnneehniendnfaaGreat.Q
abbrev ref35_weights : Nat := 67
def ref35_weights_c : MFn :=
  ⟨19,(.seq (r [o 2 (.mv (.c .nils))] [0]) (.seq (r [o 3 (.mv (.c .nils))] [0,3]) (.seq (.seq (r [o 6 (.mv (.t 0)),o 7 (.lenS (.t 6)),o 8 (.mv (i 0))] [3,6,7,8])
  (.block 0 (.loop (.seq (r [o 9 (.bin .lss (.t 8) (.t 7))] [3,6,7,8,9]) (.seq (.cond (.t 9) .skip (.exit 0)) (.seq (.block 1 (.seq (r [o 10 (.ixA 6 (.t 6) (.t 8)),o 11 (.ld (some 6) (.t 10)),
  o 5 (.alloc [.int .i64 0,.int .i64 0,.nils,.bool false,.nils,.nils]),z (.st 6 (.t 5) (.t 11))] [3,5,6,7,8]) (r [o 12 (.mv (.t 3)),o 13 (.fA 3 (.t 5)),o 14 (.ld (some 3) (.t 13)),
  o 15 (.buildSl 3 1 [.bool false,.nils,.nils] [(0,(.t 14))]),o 16 (.app 3 56 (.t 12) (.t 15)),o 3 (.mv (.t 16))] [3,6,7,8]))) (r [o 17 (.bin .add (.t 8) (i 1)),o 8 (.mv (.t 17))] [3,6,7,8])))))))
  (.seq (r [o 18 (.mv (.t 3)),o 2 (.mv (.t 18))] [2]) .ret)))),[.t 2]⟩
theorem ref35_weights_ok : cFn Tryz.prog (kps [[0],[0,3],[3,6,7,8],[3,6,7,8,9],[3,5,6,7,8],[3,6,7,8],[3,6,7,8],[2]]) [] 67 = some ref35_weights_c := by kernel_rfl
abbrev ref35_put : Nat := 70
def ref35_put_c : MFn :=
  ⟨72,(.seq (r [o 3 (.box (.t 1)),o 4 (.mv (.c .nils))] [0,3]) (.seq (r [o 5 (.mv (.c .nils))] [0,3,5]) (.seq (r [o 6 (.mv (.c (.bool false)))] [0,3,5,6]) (.seq (.seq (r [o 9 (.mv (.t 0)),
  o 10 (.lenS (.t 9)),o 11 (.mv (i 0))] [3,5,6,9,10,11]) (.block 0 (.loop (.seq (r [o 12 (.bin .lss (.t 11) (.t 10))] [3,5,6,9,10,11,12]) (.seq (.cond (.t 12) .skip (.exit 0))
  (.seq (.block 1 (.seq (r [o 13 (.ixA 5 (.t 9) (.t 11)),o 14 (.ld (some 5) (.t 13)),o 8 (.alloc [.int .i64 0,.int .i64 0,.bool false,.nils,.nils]),z (.st 5 (.t 8) (.t 14))] [3,5,6,8,9,10,11])
  (.seq (.seq (r [o 15 (.fA 0 (.t 8)),o 16 (.ld none (.t 15)),o 17 (.fA 0 (.t 3)),o 18 (.ld none (.t 17)),o 19 (.bin .eql (.t 16) (.t 18)),o 20 (.mv (.t 19)),y 21 20 (.fA 1 (.t 8)),
  y 22 20 (.ld none (.t 21)),y 23 20 (.fA 1 (.t 3)),y 24 20 (.ld none (.t 23)),y 25 20 (.bin .eql (.t 22) (.t 24)),o 26 (.pick (.t 20) (.t 25) (.c (.bool false)))] [3,5,6,8,9,10,11,26])
  (.cond (.t 26) (.seq (r [o 27 (.fA 2 (.t 8)),o 28 (.ld (some 3) (.t 27)),o 29 (.fA 2 (.t 3)),o 30 (.ld (some 3) (.t 29)),o 31 (.call 30 [(.t 28),(.t 30)]),o 32 (.fA 2 (.t 8)),z (.st 3 (.t 32)
  (.t 31))] [3,5,8,9,10,11]) (r [o 6 (.mv (.c (.bool true)))] [3,5,6,8,9,10,11])) .skip)) (.seq (.seq (r [o 33 (.mv (.t 6)),o 34 (.un .not (.t 33)),o 35 (.mv (.t 34)),y 36 35 (.fA 0 (.t 3)),
  y 37 35 (.ld none (.t 36)),y 38 35 (.fA 0 (.t 8)),y 39 35 (.ld none (.t 38)),y 40 35 (.bin .lss (.t 37) (.t 39)),y 41 35 (.mv (.t 40)),n 42 41 (.fA 0 (.t 3)),n 43 41 (.ld none (.t 42)),
  n 44 41 (.fA 0 (.t 8)),n 45 41 (.ld none (.t 44)),n 46 41 (.bin .eql (.t 43) (.t 45)),n 47 41 (.mv (.t 46)),y 48 47 (.fA 1 (.t 3)),y 49 47 (.ld none (.t 48)),y 50 47 (.fA 1 (.t 8)),
  y 51 47 (.ld none (.t 50)),y 52 47 (.bin .lss (.t 49) (.t 51)),n 53 41 (.pick (.t 47) (.t 52) (.c (.bool false))),y 54 35 (.pick (.t 41) (.c (.bool true)) (.t 53)),o 55 (.pick (.t 35) (.t 54)
  (.c (.bool false)))] [3,5,6,8,9,10,11,55]) (.cond (.t 55) (.seq (r [o 56 (.mv (.t 5)),o 57 (.ld (some 5) (.t 3)),o 58 (.buildSl 5 1 [.int .i64 0,.int .i64 0,.bool false,.nils,.nils] [(0,(.t 57))]),
  o 59 (.app 5 72 (.t 56) (.t 58)),o 5 (.mv (.t 59))] [3,5,8,9,10,11]) (r [o 6 (.mv (.c (.bool true)))] [3,5,6,8,9,10,11])) .skip)) (r [o 60 (.mv (.t 5)),o 61 (.ld (some 5) (.t 8)),
  o 62 (.buildSl 5 1 [.int .i64 0,.int .i64 0,.bool false,.nils,.nils] [(0,(.t 61))]),o 63 (.app 5 72 (.t 60) (.t 62)),o 5 (.mv (.t 63))] [3,5,6,9,10,11]))))) (r [o 64 (.bin .add (.t 11) (i 1)),
  o 11 (.mv (.t 64))] [3,5,6,9,10,11]))))))) (.seq (.seq (r [o 65 (.mv (.t 6)),o 66 (.un .not (.t 65))] [3,5,66]) (.cond (.t 66) (r [o 67 (.mv (.t 5)),o 68 (.ld (some 5) (.t 3)),
  o 69 (.buildSl 5 1 [.int .i64 0,.int .i64 0,.bool false,.nils,.nils] [(0,(.t 68))]),o 70 (.app 5 72 (.t 67) (.t 69)),o 5 (.mv (.t 70))] [5]) .skip)) (.seq (r [o 71 (.mv (.t 5)),
  o 4 (.mv (.t 71))] [4]) .ret)))))),[.t 4]⟩
theorem ref35_put_ok : cFn Tryz.prog (kps [[0,3],[0,3,5],[0,3,5,6],[3,5,6,9,10,11],[3,5,6,9,10,11,12],[3,5,6,8,9,10,11],[3,5,6,8,9,10,11,26],[3,5,8,9,10,11],[3,5,6,8,9,10,11],[3,5,6,8,9,10,11,55],[3,5,8,9,10,11],[3,5,6,8,9,10,11],[3,5,6,9,10,11],[3,5,6,9,10,11],[3,5,66],[5],[4]]) [] 70 = some ref35_put_c := by kernel_rfl
abbrev ref35_paired : Nat := 71
def ref35_paired_c : MFn :=
  ⟨67,(.seq (r [o 6 (.mv (.c .nils))] [0,1,2]) (.seq (r [o 7 (.mv (i 0)),o 8 (.mv (i 0))] [0,1,2,7,8]) (.seq (.block 0 (.loop (.seq (.seq (r [o 10 (.mv (.t 7)),o 11 (.mv (.t 1)),o 12 (.lenS (.t 11)),
  o 13 (.bin .lss (.t 10) (.t 12)),o 14 (.mv (.t 13)),y 15 14 (.mv (.t 8)),y 16 14 (.mv (.t 2)),y 17 14 (.lenS (.t 16)),y 18 14 (.bin .lss (.t 15) (.t 17)),o 19 (.pick (.t 14) (.t 18)
  (.c (.bool false)))] [0,1,2,7,8,19]) (.cond (.t 19) .skip (.exit 0))) (.block 1 (.seq (r [o 20 (.mv (.t 1)),o 21 (.mv (.t 7)),o 22 (.ixA 3 (.t 20) (.t 21)),o 23 (.ld (some 3) (.t 22)),
  o 24 (.mv (.t 2)),o 25 (.mv (.t 8)),o 26 (.ixA 3 (.t 24) (.t 25)),o 27 (.ld (some 3) (.t 26)),o 28 (.callF 69 [(.t 23),(.t 27)]),o 9 (.alloc [.bool false,.nils,.nils]),z (.st 3 (.t 9) (.t 28))] [0,
  1,2,7,8,9]) (.seq (.seq (r [o 29 (.ld (some 3) (.t 9)),o 30 (.call 51 [(.t 29)]),o 31 (.bin .gtr (.t 30) (i 0))] [0,1,2,7,8,9,31]) (.cond (.t 31) (.seq (r [o 32 (.mv (.t 0)),o 33 (.mv (.t 7)),
  o 34 (.mv (.t 8)),o 35 (.ld (some 3) (.t 9)),o 36 (.build [.int .i64 0,.int .i64 0,.bool false,.nils,.nils] [(0,1,(.t 33)),(1,1,(.t 34)),(2,3,(.t 35))]),o 37 (.call 70 [(.t 32),(.t 36)]),
  o 0 (.mv (.t 37))] [0,1,2,7,8,9]) (r [o 38 (.mv (.t 1)),o 39 (.mv (.t 7)),o 40 (.mv (.t 2)),o 41 (.mv (.t 8)),o 42 (.mv (.t 1)),o 43 (.mv (.t 7)),o 44 (.ixA 3 (.t 42) (.t 43)),o 45 (.ld (some 3)
  (.t 44)),o 46 (.ld (some 3) (.t 9)),o 47 (.callF 31 [(.t 45),(.t 46)]),o 48 (.mv (.t 2)),o 49 (.mv (.t 8)),o 50 (.ixA 3 (.t 48) (.t 49)),o 51 (.ld (some 3) (.t 50)),o 52 (.ld (some 3) (.t 9)),
  o 53 (.callF 31 [(.t 51),(.t 52)]),o 54 (.ixA 3 (.t 38) (.t 39)),z (.st 3 (.t 54) (.t 47)),o 55 (.ixA 3 (.t 40) (.t 41)),z (.st 3 (.t 55) (.t 53))] [0,1,2,7,8])) .skip)) (.seq (r [o 56 (.mv (.t 1)),
  o 57 (.mv (.t 7)),o 58 (.ixA 3 (.t 56) (.t 57)),o 59 (.ld (some 3) (.t 58)),o 60 (.call 51 [(.t 59)]),o 61 (.bin .eql (.t 60) (i 0))] [0,1,2,7,8,61]) (.cond (.t 61) (r [o 62 (.mv (.t 7)),
  o 63 (.bin .add (.t 62) (i 1)),o 7 (.mv (.t 63))] [0,1,2,7,8]) (r [o 64 (.mv (.t 8)),o 65 (.bin .add (.t 64) (i 1)),o 8 (.mv (.t 65))] [0,1,2,7,8]))))))))) (.seq (r [o 66 (.mv (.t 0)),
  o 6 (.mv (.t 66))] [6]) .ret)))),[.t 6]⟩
theorem ref35_paired_ok : cFn Tryz.prog (kps [[0,1,2],[0,1,2,7,8],[0,1,2,7,8,19],[0,1,2,7,8,9],[0,1,2,7,8,9,31],[0,1,2,7,8,9],[0,1,2,7,8],[0,1,2,7,8,61],[0,1,2,7,8],[0,1,2,7,8],[6]]) [] 71 = some ref35_paired_c := by kernel_rfl
end Go.Proofs.YtnneehniendnfaaGreat.F

namespace Go.Proofs.YtnneehniendnfaaGreat
open Go Go.Proofs Go.Proofs.YtnneehniendnfaaGreat.E
set_option linter.unusedSimpArgs false
set_option linter.unusedVariables false
set_option maxHeartbeats 4000000 in
theorem ref35_weights0 {l : List Part} (hl : l.length ≤ 1000000)  : CallX Tryz.prog F.ref35_weights [pl l] [] (fun v s => ∃ o, v = grown o l.length ∧ s = grownS o 3 l.length (l.map fun p => p.w.c)) := by
  refine callX_by F.ref35_weights_ok ?_
  unfold F.ref35_weights_c
  simp [setOb, List.filter_cons]
  refine wm_loop (fun g : Nat × Nat => ((((Sl.empty.set 8 (.int .i64 g.2)).set 7 (.int .i64 l.length)).set 6 (pl l)).set 3 (grown g.1 g.2), grownS g.1 3 g.2 ((l.map fun p => p.w.c).take g.2)))
    (fun g => g.2 ≤ l.length) (fun g => l.length - g.2) (0, 0) (by simp) ?_ ?_
  · refine weak_obs ?_ (by simp [grown_zero, grownS_zero]) (by repeat (first | exact sin_empty | refine sin_set (by simp [grown_zero]) ?_)) (by simp [grown_zero, grownS_zero])
    simp only [grown_zero]
    repeat (first | exact sub_empty | refine sub_set (by simp) ?_)
  rintro ⟨o, i⟩ hi
  dsimp only at hi
  have hw : ∀ n, ∀ r ∈ List.take n (l.map fun p => p.w.c), ∀ y ∈ r, ∀ p : Nat → Bool, y.within p = true := fun n r hr y hy p => by
    obtain ⟨x, _, rfl⟩ := List.mem_map.1 (List.mem_of_mem_take hr)
    exact rawc_within _ y hy
  by_cases h1 : i < l.length
  · have e1 : List.take (i + 1) (l.map fun p => p.w.c) = List.take i (l.map fun p => p.w.c) ++ [l[i].w.c] := by
      rw [List.take_succ_eq_append_getElem (by simpa using h1)]; simp
    by_cases hi0 : i = 0
    · subst hi0
      simp at e1
      simp [h1, grown_zero, grownS_zero, setOb, List.filter_cons]
      rw [wrap64 (by omega) (by omega)]
      refine ⟨(2, 1), h1, by dsimp only; omega, ?_⟩
      refine weak_obs ?_ ?_ (by simp only [grown_pos (show 1 ≠ 0 by omega)]; repeat (first | exact sin_empty | refine sin_set (by simp [grownS_pos]) ?_)) ?_
      · simp only [grown_pos (show 1 ≠ 0 by omega)]
        repeat (first | exact sub_empty | refine sub_set (by simp) ?_)
      · simp [grownS_pos, e1]
      · simp only [grownS_pos (show 1 ≠ 0 by omega)]
        intro p hp r hr y hy
        simp at hp; subst hp
        exact hw _ r hr y hy _
    · simp (disch := omega) [h1, grown_pos hi0, grownS_pos hi0, setOb, List.filter_cons, Nat.max_eq_right, Nat.max_eq_left, if_neg, if_pos]
      rw [wrap64 (by omega) (by omega)]
      refine ⟨(o + 3, i + 1), h1, by dsimp only; omega, ?_⟩
      refine weak_obs ?_ ?_ (by simp only [grown_pos (show i + 1 ≠ 0 by omega)]; repeat (first | exact sin_empty | refine sin_set (by simp [grownS_pos]) ?_)) ?_
      · simp only [grown_pos (show i + 1 ≠ 0 by omega)]
        repeat (first | exact sub_empty | refine sub_set (by simp) ?_)
      · simp [grownS_pos, e1]
      · simp only [grownS_pos (show i + 1 ≠ 0 by omega)]
        intro p hp r hr y hy
        simp at hp; subst hp
        exact hw _ r hr y hy _
  · have hil : i = l.length := by omega
    subst hil
    simp [h1]
    refine E.doneX_new (by simp) (by simp; rfl) rfl ?_ ?_
    · intro h0
      rw [grownS_pos h0]
      simp [E.look]
      rw [List.take_of_length_le (by simp)]
    · intro r hr y hy p
      exact hw l.length r (by rw [List.take_of_length_le (by simp)]; exact hr) y hy p
theorem ref35_weights {σ : Sto} {l : List Part} (hl : l.length ≤ 1000000)  : CallX Tryz.prog F.ref35_weights [pl l] σ (fun v s => v = grown (fresh σ) l.length ∧ s = took σ 3 l.length (l.map fun p => p.w.c)) :=
  CallX.new (ref35_weights0 hl) (fun r hr y hy => by
    obtain ⟨x, _, rfl⟩ := List.mem_map.1 hr
    exact rawc_within _ y hy) (ds := [pl l]) (by simp) (by simp [rchs])
end Go.Proofs.YtnneehniendnfaaGreat

namespace Go.Proofs.YtnneehniendnfaaGreat
open Go Go.Proofs Go.Proofs.YtnneehniendnfaaGreat.E
set_option linter.unusedSimpArgs false
set_option linter.unusedVariables false
theorem pr_A (p : Pq) : p.pr.A = p.A := (rfl)
theorem pr_B (p : Pq) : p.pr.B = p.B := (rfl)
theorem pr_w (p : Pq) : p.pr.w = rawOf p.q := (rfl)
structure PutInv (L : List Pq) (x : Pq) (K : Nat) (i : Nat) (done : Bool) (M : List Pq) : Prop where
  le : i ≤ L.length
  up : Up M
  pos : ∀ p ∈ M, 0 < p.q
  fit : ∀ p ∈ M, Fits p.q K
  no : done = false → M = L.take i ∧ ∀ p ∈ M, ltk p x
  yes : done = true → (∀ A B, valA M A B = valA (L.take i) A B + valA [x] A B) ∧ (∀ m ∈ M, ∀ t (ht : t < L.length), i ≤ t → ltk m L[t]) ∧ (∀ t (ht : t < L.length), i ≤ t → ltk x L[t]) ∧ M ≠ []
  len : M.length ≤ i + 1
theorem putW (x : Pq) (q : Nat) (G : List Pq) : ∀ p ∈ ([(0, (⟨.own, 5, [x.c]⟩ : Ob))] ++ [(q, (⟨.own, 5, G.map Pq.c⟩ : Ob))] : Sto), ∀ r ∈ p.2.cells, ∀ y ∈ r, y.within (fun k => (([(0, (⟨.own, 5, [x.c]⟩ : Ob))] ++ [(q, (⟨.own, 5, G.map Pq.c⟩ : Ob))] : Sto).map (fun z : Nat × Ob => z.1)).contains k) = true := by
  intro p hp r hr y hy
  simp only [List.cons_append, List.nil_append, List.mem_cons, List.not_mem_nil, or_false] at hp
  rcases hp with rfl | rfl
  · simp at hr; subst hr; exact prC_within _ y hy
  · obtain ⟨z, _, rfl⟩ := List.mem_map.1 hr; exact prC_within _ y hy
section
variable {L : List Pq} {x : Pq} {K i : Nat} {M : List Pq}
theorem up_app {M : List Pq} {p : Pq} (h : Up M) (hp : ∀ m ∈ M, ltk m p) : Up (M ++ [p]) := by
  unfold Up at *
  rw [List.pairwise_append]
  exact ⟨h, by simp, fun a ha b hb => by simp only [List.mem_singleton] at hb; subst hb; exact hp a ha⟩
theorem valA_take {L : List Pq} {i : Nat} (hi : i < L.length) (A B : Int) : valA (L.take (i + 1)) A B = valA (L.take i) A B + valA [L[i]] A B := by
  rw [List.take_succ_eq_append_getElem hi, valA_append]
theorem below_at {L : List Pq} (hL : Up L) {i : Nat} (hi : i < L.length) : ∀ p ∈ L.take i, ltk p L[i] := by
  intro p hp
  obtain ⟨j, hj, rfl⟩ := List.getElem_of_mem hp
  simp at hj
  rw [List.getElem_take]
  exact List.pairwise_iff_getElem.1 hL j i (by omega) hi (by omega)
theorem above_at {L : List Pq} (hL : Up L) {i : Nat} (hi : i < L.length) : ∀ t (ht : t < L.length), i + 1 ≤ t → ltk L[i] L[t] := fun t ht h => List.pairwise_iff_getElem.1 hL i t hi ht (by omega)
theorem PutInv.cont (h : PutInv L x K i true M) (hL : Up L) (hp : ∀ p ∈ L, 0 < p.q) (hf : ∀ p ∈ L, Fits p.q K) (hi : i < L.length) : PutInv L x K (i + 1) true (M ++ [L[i]]) := by
  obtain ⟨y1, y2, y3, y4⟩ := h.yes rfl
  refine ⟨hi, up_app h.up fun m hm => y2 m hm i hi (Nat.le_refl _), fun p hp' => ?_, fun p hp' => ?_, by simp, fun _ => ⟨fun A B => ?_, fun m hm t ht hit => ?_, fun t ht hit => y3 t ht (by omega), by simp⟩, by have := h.len; simp; omega⟩
  · rcases List.mem_append.1 hp' with hp' | hp'
    · exact h.pos p hp'
    · simp only [List.mem_singleton] at hp'; subst hp'; exact hp _ (List.getElem_mem hi)
  · rcases List.mem_append.1 hp' with hp' | hp'
    · exact h.fit p hp'
    · simp only [List.mem_singleton] at hp'; subst hp'; exact hf _ (List.getElem_mem hi)
  · rw [valA_append, y1, valA_take hi]; grind
  · rcases List.mem_append.1 hm with hm | hm
    · exact y2 m hm t ht (by omega)
    · simp only [List.mem_singleton] at hm; subst hm; exact above_at hL hi t ht hit
theorem PutInv.pass (h : PutInv L x K i false M) (hL : Up L) (hp : ∀ p ∈ L, 0 < p.q) (hf : ∀ p ∈ L, Fits p.q K) (hi : i < L.length) (hk : ltk L[i] x) : PutInv L x K (i + 1) false (M ++ [L[i]]) := by
  obtain ⟨n1, n2⟩ := h.no rfl
  refine ⟨hi, up_app h.up (by rw [n1]; exact below_at hL hi), fun p hp' => ?_, fun p hp' => ?_, fun _ => ⟨by rw [n1, List.take_succ_eq_append_getElem hi], fun p hp' => ?_⟩, by simp, by have := h.len; simp; omega⟩
  · rcases List.mem_append.1 hp' with hp' | hp'
    · exact h.pos p hp'
    · simp only [List.mem_singleton] at hp'; subst hp'; exact hp _ (List.getElem_mem hi)
  · rcases List.mem_append.1 hp' with hp' | hp'
    · exact h.fit p hp'
    · simp only [List.mem_singleton] at hp'; subst hp'; exact hf _ (List.getElem_mem hi)
  · rcases List.mem_append.1 hp' with hp' | hp'
    · exact n2 p hp'
    · simp only [List.mem_singleton] at hp'; subst hp'; exact hk
theorem PutInv.ins (h : PutInv L x K i false M) (hL : Up L) (hp : ∀ p ∈ L, 0 < p.q) (hf : ∀ p ∈ L, Fits p.q K) (hx : 0 < x.q ∧ Fits x.q K) (hi : i < L.length) (hk : ltk x L[i]) : PutInv L x K (i + 1) true (M ++ [x] ++ [L[i]]) := by
  obtain ⟨n1, n2⟩ := h.no rfl
  refine ⟨hi, up_app (up_app h.up n2) fun m hm => ?_, fun p hp' => ?_, fun p hp' => ?_, by simp, fun _ => ⟨fun A B => ?_, fun m hm t ht hit => ?_, fun t ht hit => ltk_trans hk (above_at hL hi t ht hit), by simp⟩, by have := h.len; rw [n1] at this ⊢; simp at this ⊢; omega⟩
  · rcases List.mem_append.1 hm with hm | hm
    · rw [n1] at hm; exact below_at hL hi m hm
    · simp only [List.mem_singleton] at hm; subst hm; exact hk
  · simp only [List.mem_append, List.mem_singleton] at hp'
    rcases hp' with (hp' | rfl) | rfl
    · exact h.pos p hp'
    · exact hx.1
    · exact hp _ (List.getElem_mem hi)
  · simp only [List.mem_append, List.mem_singleton] at hp'
    rcases hp' with (hp' | rfl) | rfl
    · exact h.fit p hp'
    · exact hx.2
    · exact hf _ (List.getElem_mem hi)
  · rw [valA_append, valA_append, valA_take hi, n1]; grind
  · simp only [List.mem_append, List.mem_singleton] at hm
    rcases hm with (hm | rfl) | rfl
    · exact ltk_trans (n2 m hm) (ltk_trans hk (above_at hL hi t ht hit))
    · exact ltk_trans hk (above_at hL hi t ht hit)
    · exact above_at hL hi t ht hit
theorem PutInv.same (h : PutInv L x K i false M) (hL : Up L) (hp : ∀ p ∈ L, 0 < p.q) (hx : 0 < x.q) (hi : i < L.length) (hf : Fits (L[i].q + x.q) K) (hk : L[i].A = x.A ∧ L[i].B = x.B) : PutInv L x K (i + 1) true (M ++ [⟨L[i].A, L[i].B, L[i].q + x.q⟩]) := by
  obtain ⟨n1, n2⟩ := h.no rfl
  have hl : ∀ q : Pq, ltk q L[i] → ltk q ⟨L[i].A, L[i].B, L[i].q + x.q⟩ := fun q hq => hq
  refine ⟨hi, up_app h.up fun m hm => ?_, fun p hp' => ?_, fun p hp' => ?_, by simp, fun _ => ⟨fun A B => ?_, fun m hm t ht hit => ?_, fun t ht hit => ?_, by simp⟩, by have := h.len; simp; omega⟩
  · rw [n1] at hm; exact hl m (below_at hL hi m hm)
  · rcases List.mem_append.1 hp' with hp' | hp'
    · exact h.pos p hp'
    · simp only [List.mem_singleton] at hp'; subst hp'
      have := hp _ (List.getElem_mem hi)
      show 0 < L[i].q + x.q
      grind
  · rcases List.mem_append.1 hp' with hp' | hp'
    · exact h.fit p hp'
    · simp only [List.mem_singleton] at hp'; subst hp'; exact hf
  · rw [valA_append, valA_take hi, n1, valA_cons, valA_cons, valA_cons, valA_nil]
    by_cases e : L[i].A = A ∧ L[i].B = B
    · have e2 : x.A = A ∧ x.B = B := by omega
      rw [if_pos e, if_pos e, if_pos e2]; grind
    · have e2 : ¬ (x.A = A ∧ x.B = B) := by omega
      rw [if_neg e, if_neg e, if_neg e2]; grind
  · rcases List.mem_append.1 hm with hm | hm
    · rw [n1] at hm; exact ltk_trans (below_at hL hi m hm) (above_at hL hi t ht hit)
    · simp only [List.mem_singleton] at hm; subst hm
      exact above_at hL hi t ht hit
  · have := above_at hL hi t ht hit
    unfold ltk at *; omega
end
set_option maxHeartbeats 8000000 in
theorem ref35_put {L : List Pq} {x : Pq} {K J : Nat} (hL : Up L) (hl : L.length ≤ 1000) (hp : ∀ p ∈ L, 0 < p.q) (hf : ∀ p ∈ L, Fits p.q K) (hx : 0 < x.q) (hfx : Fits x.q J) (hK : K + J + 1 ≤ 2000000000) :
    CallD Tryz.prog F.ref35_put [.dat (L.map Pq.c), .agg x.c] (fun r => ∃ M : List Pq, r = .dat (M.map Pq.c) ∧ Up M ∧ (∀ A B, valA M A B = valA L A B + valA [x] A B) ∧ (∀ p ∈ M, 0 < p.q) ∧ (∀ p ∈ M, Fits p.q (K + J + 1)) ∧ M.length ≤ L.length + 1) := by
  have hf' : ∀ p ∈ L, Fits p.q (K + J + 1) := fun p h => (hf p h).mono (by omega)
  have hx' : 0 < x.q ∧ Fits x.q (K + J + 1) := ⟨hx, hfx.mono (by omega)⟩
  have okx : (rawOf x.q).Ok (2 ^ 31) := rawOf_ok (hfx.mono (by omega))
  refine callD_by F.ref35_put_ok ?_
  unfold F.ref35_put_c
  simp [setOb, List.filter_cons]
  refine wm_loop (fun g : Nat × Nat × Bool × List Pq => ((((((Sl.empty.set 11 (.int .i64 g.1)).set 10 (.int .i64 L.length)).set 9 (.dat (L.map Pq.c))).set 6 (.bool g.2.2.1)).set 5 (grown g.2.1 g.2.2.2.length)).set 3 (.ptr 0 0 0), [(0, (⟨.own, 5, [x.c]⟩ : Ob))] ++ grownS g.2.1 5 g.2.2.2.length (g.2.2.2.map Pq.c)))
    (fun g => PutInv L x (K + J + 1) g.1 g.2.2.1 g.2.2.2 ∧ 1 ≤ g.2.1) (fun g => L.length - g.1) (0, 1, false, []) ?_ ?_ ?_
  · exact ⟨⟨Nat.zero_le _, by simp [Up], by simp, by simp, fun _ => ⟨rfl, by simp⟩, by simp, by simp⟩, Nat.le_refl _⟩
  · simp only [List.length_nil, grown_zero, grownS_zero]
    refine weak_obs ?_ (by simp) (by repeat (first | exact sin_empty | refine sin_set (by simp) ?_)) ?_
    · repeat (first | exact sub_empty | refine sub_set (by simp) ?_)
    · intro p hp r hr y hy
      simp at hp; subst hp
      simp at hr; subst hr
      exact prC_within _ y hy
  rintro ⟨i, q, done, M⟩ ⟨inv, hq⟩
  dsimp only at inv hq
  by_cases h1 : i < L.length
  · have okp : (rawOf L[i].q).Ok (2 ^ 31) := rawOf_ok ((hf _ (List.getElem_mem h1)).mono (by omega))
    have hlen := inv.len
    cases done with
    | false =>
      by_cases hM : M = []
      · subst hM
        by_cases eA : L[i].A = x.A
        · by_cases eB : L[i].B = x.B
          · simp (disch := omega) [h1, grown_zero, grownS_zero, setOb, List.filter_cons, Nat.max_eq_left, Nat.max_eq_right, if_neg, if_pos, pr_A, pr_B, eA, eB]
            refine callK_of (ref02_Add okp okx) (by simp [toD_rawc, raw_v, pr_w]) ?_
            rw [rawOf_q, rawOf_q]
            simp (disch := omega) [h1, ratV, raw_v, setOb, List.filter_cons, Nat.max_eq_left, Nat.max_eq_right, if_neg, if_pos, pr_A, pr_B, eA, eB]
            rw [wrap64 (by omega) (by omega)]
            have inv2 := inv.same hL hp hx h1 ((fits_add (hf _ (List.getElem_mem h1)) hfx).mono (by omega)) ⟨eA, eB⟩
            have hl2 : ([(⟨L[i].A, L[i].B, L[i].q + x.q⟩ : Pq)]).length = 1 := by simp
            refine ⟨(i + 1, 3, true, [(⟨L[i].A, L[i].B, L[i].q + x.q⟩ : Pq)]), ⟨inv2, by dsimp only; omega⟩, by dsimp only; omega, ?_⟩
            dsimp only
            simp only [hl2, grown_pos (show 1 ≠ 0 by omega), grownS_pos (show 1 ≠ 0 by omega)]
            refine weak_obs ?_ ?_ (by repeat (first | exact sin_empty | refine sin_set (by simp) ?_)) ?_
            · repeat (first | exact sub_empty | refine sub_set (by simp) ?_)
            · simp (disch := omega) [if_neg]
              try rfl
            · exact putW _ _ _
          · have c1 : ¬ x.A < L[i].A := by omega
            by_cases c2 : x.B < L[i].B
            · simp (disch := omega) [h1, grown_zero, grownS_zero, setOb, List.filter_cons, Nat.max_eq_left, Nat.max_eq_right, if_neg, if_pos, pr_A, pr_B, eA, eB, c1, c2]
              rw [wrap64 (by omega) (by omega)]
              have inv2 := inv.ins hL hp hf' hx' h1 (by unfold ltk; omega)
              rw [List.append_assoc] at inv2
              have hl2 : ([x, L[i]]).length = 2 := by simp
              refine ⟨(i + 1, 5, true, [x, L[i]]), ⟨inv2, by dsimp only; omega⟩, by dsimp only; omega, ?_⟩
              dsimp only
              simp only [hl2, grown_pos (show 2 ≠ 0 by omega), grownS_pos (show 2 ≠ 0 by omega)]
              refine weak_obs ?_ ?_ (by repeat (first | exact sin_empty | refine sin_set (by simp) ?_)) ?_
              · repeat (first | exact sub_empty | refine sub_set (by simp) ?_)
              · simp (disch := omega) [if_neg]
              · exact putW _ _ _
            · simp (disch := omega) [h1, grown_zero, grownS_zero, setOb, List.filter_cons, Nat.max_eq_left, Nat.max_eq_right, if_neg, if_pos, pr_A, pr_B, eA, eB, c1, c2]
              rw [wrap64 (by omega) (by omega)]
              have inv2 := inv.pass hL hp hf' h1 (by unfold ltk; omega)
              have hl2 : ([L[i]]).length = 1 := by simp
              refine ⟨(i + 1, 3, false, [L[i]]), ⟨inv2, by dsimp only; omega⟩, by dsimp only; omega, ?_⟩
              dsimp only
              simp only [hl2, grown_pos (show 1 ≠ 0 by omega), grownS_pos (show 1 ≠ 0 by omega)]
              refine weak_obs ?_ ?_ (by repeat (first | exact sin_empty | refine sin_set (by simp) ?_)) ?_
              · repeat (first | exact sub_empty | refine sub_set (by simp) ?_)
              · simp (disch := omega) [if_neg]
              · exact putW _ _ _
        · have eA' : ¬ x.A = L[i].A := fun h => eA h.symm
          by_cases c1 : x.A < L[i].A
          · simp (disch := omega) [h1, grown_zero, grownS_zero, setOb, List.filter_cons, Nat.max_eq_left, Nat.max_eq_right, if_neg, if_pos, pr_A, pr_B, eA, eA', c1]
            rw [wrap64 (by omega) (by omega)]
            have inv2 := inv.ins hL hp hf' hx' h1 (by unfold ltk; omega)
            rw [List.append_assoc] at inv2
            have hl2 : ([x, L[i]]).length = 2 := by simp
            refine ⟨(i + 1, 5, true, [x, L[i]]), ⟨inv2, by dsimp only; omega⟩, by dsimp only; omega, ?_⟩
            dsimp only
            simp only [hl2, grown_pos (show 2 ≠ 0 by omega), grownS_pos (show 2 ≠ 0 by omega)]
            refine weak_obs ?_ ?_ (by repeat (first | exact sin_empty | refine sin_set (by simp) ?_)) ?_
            · repeat (first | exact sub_empty | refine sub_set (by simp) ?_)
            · simp (disch := omega) [if_neg]
            · exact putW _ _ _
          · simp (disch := omega) [h1, grown_zero, grownS_zero, setOb, List.filter_cons, Nat.max_eq_left, Nat.max_eq_right, if_neg, if_pos, pr_A, pr_B, eA, eA', c1]
            rw [wrap64 (by omega) (by omega)]
            have inv2 := inv.pass hL hp hf' h1 (by unfold ltk; omega)
            have hl2 : ([L[i]]).length = 1 := by simp
            refine ⟨(i + 1, 3, false, [L[i]]), ⟨inv2, by dsimp only; omega⟩, by dsimp only; omega, ?_⟩
            dsimp only
            simp only [hl2, grown_pos (show 1 ≠ 0 by omega), grownS_pos (show 1 ≠ 0 by omega)]
            refine weak_obs ?_ ?_ (by repeat (first | exact sin_empty | refine sin_set (by simp) ?_)) ?_
            · repeat (first | exact sub_empty | refine sub_set (by simp) ?_)
            · simp (disch := omega) [if_neg]
            · exact putW _ _ _
      · have hm0 : M.length ≠ 0 := fun h => hM (List.length_eq_zero_iff.1 h)
        by_cases eA : L[i].A = x.A
        · by_cases eB : L[i].B = x.B
          · simp (disch := omega) [h1, grown_pos hm0, grownS_pos hm0, setOb, List.filter_cons, Nat.max_eq_left, Nat.max_eq_right, if_neg, if_pos, pr_A, pr_B, eA, eB]
            refine callK_of (ref02_Add okp okx) (by simp [toD_rawc, raw_v, pr_w]) ?_
            rw [rawOf_q, rawOf_q]
            simp (disch := omega) [h1, ratV, raw_v, setOb, List.filter_cons, Nat.max_eq_left, Nat.max_eq_right, if_neg, if_pos, pr_A, pr_B, eA, eB]
            rw [wrap64 (by omega) (by omega)]
            have inv2 := inv.same hL hp hx h1 ((fits_add (hf _ (List.getElem_mem h1)) hfx).mono (by omega)) ⟨eA, eB⟩
            have hl2 : (M ++ [(⟨L[i].A, L[i].B, L[i].q + x.q⟩ : Pq)]).length = M.length + 1 := by simp
            refine ⟨(i + 1, q + 3, true, M ++ [(⟨L[i].A, L[i].B, L[i].q + x.q⟩ : Pq)]), ⟨inv2, by dsimp only; omega⟩, by dsimp only; omega, ?_⟩
            dsimp only
            simp only [hl2, grown_pos (show M.length + 1 ≠ 0 by omega), grownS_pos (show M.length + 1 ≠ 0 by omega)]
            refine weak_obs ?_ ?_ (by repeat (first | exact sin_empty | refine sin_set (by simp) ?_)) ?_
            · repeat (first | exact sub_empty | refine sub_set (by simp) ?_)
            · simp (disch := omega) [if_neg]
              try rfl
            · exact putW _ _ _
          · have c1 : ¬ x.A < L[i].A := by omega
            by_cases c2 : x.B < L[i].B
            · simp (disch := omega) [h1, grown_pos hm0, grownS_pos hm0, setOb, List.filter_cons, Nat.max_eq_left, Nat.max_eq_right, if_neg, if_pos, pr_A, pr_B, eA, eB, c1, c2]
              rw [wrap64 (by omega) (by omega)]
              have inv2 := inv.ins hL hp hf' hx' h1 (by unfold ltk; omega)
              rw [List.append_assoc] at inv2
              have hl2 : (M ++ [x, L[i]]).length = M.length + 2 := by simp
              refine ⟨(i + 1, q + 5, true, M ++ [x, L[i]]), ⟨inv2, by dsimp only; omega⟩, by dsimp only; omega, ?_⟩
              dsimp only
              simp only [hl2, grown_pos (show M.length + 2 ≠ 0 by omega), grownS_pos (show M.length + 2 ≠ 0 by omega)]
              refine weak_obs ?_ ?_ (by repeat (first | exact sin_empty | refine sin_set (by simp) ?_)) ?_
              · repeat (first | exact sub_empty | refine sub_set (by simp) ?_)
              · simp (disch := omega) [if_neg]
              · exact putW _ _ _
            · simp (disch := omega) [h1, grown_pos hm0, grownS_pos hm0, setOb, List.filter_cons, Nat.max_eq_left, Nat.max_eq_right, if_neg, if_pos, pr_A, pr_B, eA, eB, c1, c2]
              rw [wrap64 (by omega) (by omega)]
              have inv2 := inv.pass hL hp hf' h1 (by unfold ltk; omega)
              have hl2 : (M ++ [L[i]]).length = M.length + 1 := by simp
              refine ⟨(i + 1, q + 3, false, M ++ [L[i]]), ⟨inv2, by dsimp only; omega⟩, by dsimp only; omega, ?_⟩
              dsimp only
              simp only [hl2, grown_pos (show M.length + 1 ≠ 0 by omega), grownS_pos (show M.length + 1 ≠ 0 by omega)]
              refine weak_obs ?_ ?_ (by repeat (first | exact sin_empty | refine sin_set (by simp) ?_)) ?_
              · repeat (first | exact sub_empty | refine sub_set (by simp) ?_)
              · simp (disch := omega) [if_neg]
              · exact putW _ _ _
        · have eA' : ¬ x.A = L[i].A := fun h => eA h.symm
          by_cases c1 : x.A < L[i].A
          · simp (disch := omega) [h1, grown_pos hm0, grownS_pos hm0, setOb, List.filter_cons, Nat.max_eq_left, Nat.max_eq_right, if_neg, if_pos, pr_A, pr_B, eA, eA', c1]
            rw [wrap64 (by omega) (by omega)]
            have inv2 := inv.ins hL hp hf' hx' h1 (by unfold ltk; omega)
            rw [List.append_assoc] at inv2
            have hl2 : (M ++ [x, L[i]]).length = M.length + 2 := by simp
            refine ⟨(i + 1, q + 5, true, M ++ [x, L[i]]), ⟨inv2, by dsimp only; omega⟩, by dsimp only; omega, ?_⟩
            dsimp only
            simp only [hl2, grown_pos (show M.length + 2 ≠ 0 by omega), grownS_pos (show M.length + 2 ≠ 0 by omega)]
            refine weak_obs ?_ ?_ (by repeat (first | exact sin_empty | refine sin_set (by simp) ?_)) ?_
            · repeat (first | exact sub_empty | refine sub_set (by simp) ?_)
            · simp (disch := omega) [if_neg]
            · exact putW _ _ _
          · simp (disch := omega) [h1, grown_pos hm0, grownS_pos hm0, setOb, List.filter_cons, Nat.max_eq_left, Nat.max_eq_right, if_neg, if_pos, pr_A, pr_B, eA, eA', c1]
            rw [wrap64 (by omega) (by omega)]
            have inv2 := inv.pass hL hp hf' h1 (by unfold ltk; omega)
            have hl2 : (M ++ [L[i]]).length = M.length + 1 := by simp
            refine ⟨(i + 1, q + 3, false, M ++ [L[i]]), ⟨inv2, by dsimp only; omega⟩, by dsimp only; omega, ?_⟩
            dsimp only
            simp only [hl2, grown_pos (show M.length + 1 ≠ 0 by omega), grownS_pos (show M.length + 1 ≠ 0 by omega)]
            refine weak_obs ?_ ?_ (by repeat (first | exact sin_empty | refine sin_set (by simp) ?_)) ?_
            · repeat (first | exact sub_empty | refine sub_set (by simp) ?_)
            · simp (disch := omega) [if_neg]
            · exact putW _ _ _
    | true =>
      have hM := (inv.yes rfl).2.2.2
      have hm0 : M.length ≠ 0 := fun h => hM (List.length_eq_zero_iff.1 h)
      by_cases eA : L[i].A = x.A
      · have eB : ¬ L[i].B = x.B := fun h => by have := (inv.yes rfl).2.2.1 i h1 (Nat.le_refl _); unfold ltk at this; omega
        simp (disch := omega) [h1, grown_pos hm0, grownS_pos hm0, setOb, List.filter_cons, Nat.max_eq_left, Nat.max_eq_right, if_neg, if_pos, pr_A, pr_B, eA, eB]
        rw [wrap64 (by omega) (by omega)]
        have inv2 := inv.cont hL hp hf' h1
        have hl2 : (M ++ [L[i]]).length = M.length + 1 := by simp
        refine ⟨(i + 1, q + 3, true, M ++ [L[i]]), ⟨inv2, by dsimp only; omega⟩, by dsimp only; omega, ?_⟩
        dsimp only
        simp only [hl2, grown_pos (show M.length + 1 ≠ 0 by omega), grownS_pos (show M.length + 1 ≠ 0 by omega)]
        refine weak_obs ?_ ?_ (by repeat (first | exact sin_empty | refine sin_set (by simp) ?_)) ?_
        · repeat (first | exact sub_empty | refine sub_set (by simp) ?_)
        · simp (disch := omega) [if_neg]
        · exact putW _ _ _
      · simp (disch := omega) [h1, grown_pos hm0, grownS_pos hm0, setOb, List.filter_cons, Nat.max_eq_left, Nat.max_eq_right, if_neg, if_pos, pr_A, pr_B, eA]
        rw [wrap64 (by omega) (by omega)]
        have inv2 := inv.cont hL hp hf' h1
        have hl2 : (M ++ [L[i]]).length = M.length + 1 := by simp
        refine ⟨(i + 1, q + 3, true, M ++ [L[i]]), ⟨inv2, by dsimp only; omega⟩, by dsimp only; omega, ?_⟩
        dsimp only
        simp only [hl2, grown_pos (show M.length + 1 ≠ 0 by omega), grownS_pos (show M.length + 1 ≠ 0 by omega)]
        refine weak_obs ?_ ?_ (by repeat (first | exact sin_empty | refine sin_set (by simp) ?_)) ?_
        · repeat (first | exact sub_empty | refine sub_set (by simp) ?_)
        · simp (disch := omega) [if_neg]
        · exact putW _ _ _
  · have hil : i = L.length := by have := inv.le; omega
    subst hil
    cases done with
    | true =>
      obtain ⟨y1, y2, y3, hM⟩ := inv.yes rfl
      have hm0 : M.length ≠ 0 := fun h => hM (List.length_eq_zero_iff.1 h)
      simp [h1, grown_pos hm0, grownS_pos hm0]
      rw [E.toD_ref (k := 11) (st := .own) (es := 5) (l := M.map Pq.c) (by simp [E.look]; omega) (by simp) (by simp) (by simp) hm0 (fun r hr => by obtain ⟨x, _, rfl⟩ := List.mem_map.1 hr; exact toD_prC _ _ _)]
      simp
      exact ⟨M, rfl, inv.up, fun A B => by rw [y1, List.take_length], inv.pos, inv.fit, inv.len⟩
    | false =>
      obtain ⟨n1, n2⟩ := inv.no rfl
      rw [List.take_length] at n1
      have up2 := up_app inv.up n2
      have fin : ∃ M' : List Pq, M ++ [x] = M' ∧ Up M' ∧ (∀ A B, valA M' A B = valA L A B + valA [x] A B) ∧ (∀ p ∈ M', 0 < p.q) ∧ (∀ p ∈ M', Fits p.q (K + J + 1)) ∧ M'.length ≤ L.length + 1 := by
        refine ⟨_, rfl, up2, fun A B => by rw [valA_append, n1], fun p hp' => ?_, fun p hp' => ?_, by rw [n1]; simp⟩
        · rcases List.mem_append.1 hp' with hp' | hp'
          · exact inv.pos p hp'
          · simp only [List.mem_singleton] at hp'; subst hp'; exact hx
        · rcases List.mem_append.1 hp' with hp' | hp'
          · exact inv.fit p hp'
          · simp only [List.mem_singleton] at hp'; subst hp'; exact hx'.2
      obtain ⟨M', e', f1, f2, f3, f4, f5⟩ := fin
      by_cases hM : M = []
      · subst hM
        simp [h1, grown_zero, grownS_zero, setOb, List.filter_cons]
        rw [E.toD_ref (k := 11) (st := .own) (es := 5) (l := [x.c]) (by simp [E.look]) (by simp) (by simp) (by simp) (by simp) (fun r hr => by simp at hr; subst hr; exact toD_prC _ _ _)]
        simp
        exact ⟨M', by rw [← e']; rfl, f1, f2, f3, f4, f5⟩
      · have hm0 : M.length ≠ 0 := fun h => hM (List.length_eq_zero_iff.1 h)
        have hlen := inv.len
        simp (disch := omega) [h1, grown_pos hm0, grownS_pos hm0, setOb, List.filter_cons, Nat.max_eq_left, Nat.max_eq_right, if_neg, if_pos]
        rw [E.toD_ref (k := 11) (st := .own) (es := 5) (l := M.map Pq.c ++ [x.c]) (by simp [E.look]) (by simp) (by simp) (by simp) (by simp) (fun r hr => by
          simp only [List.mem_append, List.mem_map, List.mem_singleton] at hr
          rcases hr with ⟨z, _, rfl⟩ | rfl <;> exact toD_prC _ _ _)]
        simp
        exact ⟨M', by rw [← e']; simp, f1, f2, f3, f4, f5⟩
end Go.Proofs.YtnneehniendnfaaGreat

namespace Go.Proofs.YtnneehniendnfaaGreat
open Go Go.Proofs Go.Proofs.YtnneehniendnfaaGreat.E
set_option linter.unusedSimpArgs false
set_option linter.unusedVariables false
def lv (L : List Pq) : V := if L = [] then .nils else .dat (L.map Pq.c)
theorem lv_nil : lv [] = .nils := rfl
theorem lv_pos {L : List Pq} (h : L ≠ []) : lv L = .dat (L.map Pq.c) := if_neg h
theorem lv_within (L : List Pq) (p : Nat → Bool) : (lv L).within p = true := by unfold lv; split <;> simp [V.within]
theorem lv_toD (σ : Sto) (n : Nat) (L : List Pq) : toD σ (n + 1) (lv L) = some (.dat (L.map Pq.c)) := by
  by_cases h : L = []
  · subst h; rfl
  · rw [lv_pos h]; rfl
theorem lv_rch (σ : Sto) (n : Nat) (L : List Pq) : rch σ (n + 1) (lv L) = [] := by
  by_cases h : L = []
  · subst h; rfl
  · rw [lv_pos h]; rfl
attribute [simp] lv_within lv_toD lv_rch
theorem put_ne {M G : List Pq} {x : Pq} (hx : 0 < x.q) (hp : ∀ p ∈ G, 0 < p.q) (h : ∀ A B, valA M A B = valA G A B + valA [x] A B) : M ≠ [] := by
  rintro rfl
  have h1 := h x.A x.B
  rw [valA_nil, valA_cons, if_pos ⟨rfl, rfl⟩, valA_nil] at h1
  have h2 := valA_nonneg hp x.A x.B
  grind
theorem E.has_of {σ1 σ' : Sto} (h : ∀ p ∈ σ1, E.look σ' p.1 = some p.2) : Has σ1 σ' := fun o x ho => h (o, x) (look_mem ho)
theorem two_W (x y : List Rat) : ∀ p ∈ ([(0, obR x), (1, obR y)] : Sto), ∀ r ∈ p.2.cells, ∀ z ∈ r, z.within (fun q => (([(0, obR x), (1, obR y)] : Sto).map (fun w : Nat × Ob => w.1)).contains q) = true := by
  intro p hp r hr z hz
  simp only [List.mem_cons, List.not_mem_nil, or_false] at hp
  rcases hp with rfl | rfl
  · exact plain_R _ r hr z hz _
  · exact plain_R _ r hr z hz _
theorem weak_two {S1 S : Sl} {x y : List Rat} {σ' : Sto} (h1 : Sub S1 S) (h2 : E.look σ' 0 = some (obR x)) (h3 : E.look σ' 1 = some (obR y)) (h4 : SIn (fun o => (E.look [(0, obR x), (1, obR y)] o).isSome) S1) : Weak [0, 1] S1 [(0, obR x), (1, obR y)] S σ' := by
  refine weak_gen h1 (E.has_of fun p hp => ?_) (by simp [E.look]) h4 (shut_of ?_)
  · simp only [List.mem_cons, List.not_mem_nil, or_false] at hp
    rcases hp with rfl | rfl <;> assumption
  · intro p hp r hr y' hy
    simp only [List.mem_cons, List.not_mem_nil, or_false] at hp
    rcases hp with rfl | rfl
    · exact plain_R _ r hr y' hy _
    · exact plain_R _ r hr y' hy _
structure PairInv (x0 y0 : List Rat) (L0 : List Pq) (n m : Nat) (i k e : Nat) (x y : List Rat) (L : List Pq) : Prop where
  rest : Rest x y n m e
  up : Up L
  pos : ∀ p ∈ L, 0 < p.q
  fit : ∀ p ∈ L, Fits p.q (e * 4194305)
  val : ∀ A B, valA L A B + valA (gr x y i k) A B = valA L0 A B + valA (gr x0 y0 0 0) A B
  len : L.length ≤ e
  i : i ≤ n
  k : k ≤ m
set_option maxHeartbeats 8000000 in
theorem ref35_paired {x y : List Rat} {L : List Pq} {n m e : Nat} (hr : Rest x y n m e) (hn : n ≤ 1000) (hm : m ≤ 1000) (hL : Up L) (hp : ∀ p ∈ L, 0 < p.q) (hf : ∀ p ∈ L, Fits p.q (e * 4194305)) (hl : L.length ≤ e) :
    CallX Tryz.prog F.ref35_paired [lv L, .ref 0 0 n, .ref 1 0 m] [(0, obR x), (1, obR y)]
      (fun v s => ∃ G : List Pq, v = lv G ∧ Up G ∧ (∀ A B, valA G A B = valA L A B + valA (gr x y 0 0) A B) ∧ (∀ p ∈ G, 0 < p.q) ∧ G.length ≤ 20) := by
  refine callX_by F.ref35_paired_ok ?_
  unfold F.ref35_paired_c
  simp
  refine wm_loop (fun g : Nat × Nat × Nat × List Rat × List Rat × List Pq => (((((Sl.empty.set 8 (.int .i64 g.2.1)).set 7 (.int .i64 g.1)).set 2 (.ref 1 0 m)).set 1 (.ref 0 0 n)).set 0 (lv g.2.2.2.2.2), [(0, obR g.2.2.2.1), (1, obR g.2.2.2.2.1)]))
    (fun g => PairInv x y L n m g.1 g.2.1 g.2.2.1 g.2.2.2.1 g.2.2.2.2.1 g.2.2.2.2.2) (fun g => (n - g.1) + (m - g.2.1)) (0, 0, e, x, y, L) ?_ ?_ ?_
  · exact ⟨hr, hL, hp, hf, fun A B => rfl, hl, Nat.zero_le _, Nat.zero_le _⟩
  · refine weak_two ?_ (by simp [E.look]) (by simp [E.look]) ?_
    · repeat (first | exact sub_empty | refine sub_set (by simp) ?_)
    · repeat (first | exact sin_empty | refine sin_set (by simp [V.within, E.look]) ?_)
  rintro ⟨i, k, e', x', y', G⟩ ⟨hr', hup, hpos, hfit, hval, hlen, hi, hk⟩
  dsimp only at hr' hup hpos hfit hval hlen hi hk
  have lx := hr'.lx
  have ly := hr'.ly
  by_cases h12 : i < n ∧ k < m
  · obtain ⟨h1, h2⟩ := h12
    have hix : i < x'.length := by omega
    have hky : k < y'.length := by omega
    have nx := hr'.nx _ (List.getElem_mem hix)
    have ny := hr'.ny _ (List.getElem_mem hky)
    have pw := hr'.pow
    have okx3 : (rawOf x'[i]).Ok (2 ^ 31) := rawOf_ok ((hr'.fx _ (List.getElem_mem hix)).mono (by omega))
    have oky3 : (rawOf y'[k]).Ok (2 ^ 31) := rawOf_ok ((hr'.fy _ (List.getElem_mem hky)).mono (by omega))
    have wfit := minR_fits (hr'.fx _ (List.getElem_mem hix)) (hr'.fy _ (List.getElem_mem hky))
    have hst := gr_step hix hky
    simp [h1, h2, hix, hky, setOb, List.filter_cons]
    refine callFK_of (ref02_Least okx3 oky3) (by simp [rq, toD_rawc, raw_v]) ?_
    rw [rawOf_q, rawOf_q, show (if y'[k] < x'[i] then y'[k] else x'[i]) = minR x'[i] y'[k] from rfl]
    simp [ratV, raw_v, setOb, List.filter_cons]
    have okw3 : (rawOf (minR x'[i] y'[k])).Ok (2 ^ 33) := rawOf_ok (wfit.mono (by omega))
    refine callK_of (ref02_Sign okw3) (by simp [toD_rawc, raw_v]) ?_
    rw [rawOf_q]
    by_cases hw : 0 < minR x'[i] y'[k]
    · have hs : 0 < sgnR (minR x'[i] y'[k]) := by
        have := mt sgnR_pos_iff.1 (fun h => h hw)
        omega
      have px : 0 < x'[i] := by have := (minR_le x'[i] y'[k]).1; grind
      have py : 0 < y'[k] := by have := (minR_le x'[i] y'[k]).2.1; grind
      have emit := hr'.emit hix hky px py
      have ee := emit.e
      rw [if_pos hw] at hst
      have okw : (rawOf (minR x'[i] y'[k])).Ok (2 ^ 31) := rawOf_ok (wfit.mono (by omega))
      have eX : (List.map rq x').set i (rawOf (x'[i] - minR x'[i] y'[k])).c = List.map rq (x'.set i (x'[i] - minR x'[i] y'[k])) := by rw [List.map_set]; rfl
      have eY : (List.map rq y').set k (rawOf (y'[k] - minR x'[i] y'[k])).c = List.map rq (y'.set k (y'[k] - minR x'[i] y'[k])) := by rw [List.map_set]; rfl
      have fx2 := emit.fx (x'[i] - minR x'[i] y'[k]) (List.mem_set hix _)
      have pw2 := emit.pow
      have lim : e' * 4194305 ≤ 20 * 4194305 := Nat.mul_le_mul_right _ (by omega)
      obtain ⟨K, hKe⟩ : ∃ K, K = e' * 4194305 := ⟨_, rfl⟩
      obtain ⟨J, hJ⟩ : ∃ J : Nat, J = 4194304 := ⟨_, rfl⟩
      have hfit' : ∀ p ∈ G, Fits p.q K := fun p h => by rw [hKe]; exact hfit p h
      have wJ : Fits (minR x'[i] y'[k]) J := wfit.mono (by omega)
      have hput := ref35_put (x := ⟨i, k, minR x'[i] y'[k]⟩) (K := K) (J := J) hup (by omega) hpos hfit' hw wJ (by omega)
      generalize hwv : minR x'[i] y'[k] = w at *
      simp [hs, h1, h2, hix, hky, setOb, List.filter_cons]
      refine callK_rel hput ?_ ?_
      · simp [toD_rawc, Pq.c, prC, Pq.pr]
      rintro r ⟨M, rfl, u1, u2, u3, u4, u5⟩
      rw [← lv_pos (put_ne hw hpos u2)]
      simp [h1, h2, hix, hky, setOb, List.filter_cons]
      refine callFK_of (ref02_Sub okx3 okw) (by simp [rq, toD_rawc, raw_v]) ?_
      rw [rawOf_q, rawOf_q]
      simp [ratV, raw_v, h1, h2, hix, hky, setOb, List.filter_cons]
      refine callFK_of (ref02_Sub oky3 okw) (by simp [rq, toD_rawc, raw_v]) ?_
      rw [rawOf_q, rawOf_q]
      simp [ratV, raw_v, h1, h2, hix, hky, setOb, List.filter_cons]
      have okd : (rawOf (x'[i] - w)).Ok (2 ^ 33) := rawOf_ok (fx2.mono (by omega))
      refine callK_of (ref02_Sign okd) (by simp [toD_rawc, raw_v]) ?_
      rw [rawOf_q, eX, eY]
      have nfit : ∀ p ∈ M, Fits p.q ((e' + 1) * 4194305) := fun p h => (u4 p h).mono (by omega)
      by_cases hz : x'[i] - w = 0
      · have hz' : sgnR (x'[i] - w) = 0 := sgnR_eq.2 hz
        rw [if_pos hz] at hst
        simp [hz']
        rw [wrap64 (by omega) (by omega)]
        refine ⟨(i + 1, k, e' + 1, x'.set i (x'[i] - w), y'.set k (y'[k] - w), M), ⟨emit, u1, u3, nfit, fun A B => ?_, by dsimp only; omega, by dsimp only; omega, hk⟩, by dsimp only; omega, ?_⟩
        · dsimp only
          rw [u2, ← hval, hst, valA_append]; grind
        · refine weak_two ?_ (by simp [E.look]) (by simp [E.look]) ?_
          · repeat (first | exact sub_empty | refine sub_set (by simp) ?_)
          · repeat (first | exact sin_empty | refine sin_set (by simp [V.within, E.look]) ?_)
      · have hz' : ¬ sgnR (x'[i] - w) = 0 := fun h => hz (sgnR_eq.1 h)
        rw [if_neg hz] at hst
        simp [hz']
        rw [wrap64 (by omega) (by omega)]
        refine ⟨(i, k + 1, e' + 1, x'.set i (x'[i] - w), y'.set k (y'[k] - w), M), ⟨emit, u1, u3, nfit, fun A B => ?_, by dsimp only; omega, hi, by dsimp only; omega⟩, by dsimp only; omega, ?_⟩
        · dsimp only
          rw [u2, ← hval, hst, valA_append]; grind
        · refine weak_two ?_ (by simp [E.look]) (by simp [E.look]) ?_
          · repeat (first | exact sub_empty | refine sub_set (by simp) ?_)
          · repeat (first | exact sin_empty | refine sin_set (by simp [V.within, E.look]) ?_)
    · have hs : ¬ 0 < sgnR (minR x'[i] y'[k]) := by
        have := sgnR_pos_iff.2 hw
        omega
      rw [if_neg hw, List.nil_append] at hst
      simp [hs, h1, h2, hix, hky, setOb, List.filter_cons]
      have hm0 : minR x'[i] y'[k] = 0 := by
        have h3 := (minR_le x'[i] y'[k]).2.2
        rcases h3 with h3 | h3 <;> rw [h3] at hw ⊢ <;> grind
      have okx33 : (rawOf x'[i]).Ok (2 ^ 33) := rawOf_ok ((hr'.fx _ (List.getElem_mem hix)).mono (by omega))
      rw [hm0, set_sub_zero hix, set_sub_zero hky] at hst
      refine callK_of (ref02_Sign okx33) (by simp [rq, toD_rawc, raw_v]) ?_
      rw [rawOf_q]
      by_cases hz : x'[i] = 0
      · have hz' : sgnR x'[i] = 0 := sgnR_eq.2 hz
        rw [if_pos (by grind)] at hst
        simp [hz']
        rw [wrap64 (by omega) (by omega)]
        refine ⟨(i + 1, k, e', x', y', G), ⟨hr', hup, hpos, hfit, fun A B => ?_, hlen, by dsimp only; omega, hk⟩, by dsimp only; omega, ?_⟩
        · dsimp only
          rw [← hval, hst]
        · refine weak_two ?_ (by simp [E.look]) (by simp [E.look]) ?_
          · repeat (first | exact sub_empty | refine sub_set (by simp) ?_)
          · repeat (first | exact sin_empty | refine sin_set (by simp [V.within, E.look]) ?_)
      · have hz' : ¬ sgnR x'[i] = 0 := fun h => hz (sgnR_eq.1 h)
        rw [if_neg (by grind)] at hst
        simp [hz']
        rw [wrap64 (by omega) (by omega)]
        refine ⟨(i, k + 1, e', x', y', G), ⟨hr', hup, hpos, hfit, fun A B => ?_, hlen, hi, by dsimp only; omega⟩, by dsimp only; omega, ?_⟩
        · dsimp only
          rw [← hval, hst]
        · refine weak_two ?_ (by simp [E.look]) (by simp [E.look]) ?_
          · repeat (first | exact sub_empty | refine sub_set (by simp) ?_)
          · repeat (first | exact sin_empty | refine sin_set (by simp [V.within, E.look]) ?_)
  · have hz : gr x' y' i k = [] := gr_end (by omega)
    have fin : ∀ A B, valA G A B = valA L A B + valA (gr x y 0 0) A B := fun A B => by rw [← hval, hz, valA_nil]; grind
    by_cases h1 : i < n
    · have h2 : ¬ k < m := fun h => h12 ⟨h1, h⟩
      simp [h1, h2]
      refine doneX_gen (r := lv G) (l := [lv G]) (σ1 := [(0, obR x'), (1, obR y')]) (by simp) (by simp) rfl (Has.refl _) (by simp [E.look]) (shut_of (two_W x' y')) (by simp [V.within]) ⟨G, rfl, hup, fin, hpos, Nat.le_trans hlen hr'.e⟩
    · simp [h1]
      refine doneX_gen (r := lv G) (l := [lv G]) (σ1 := [(0, obR x'), (1, obR y')]) (by simp) (by simp) rfl (Has.refl _) (by simp [E.look]) (shut_of (two_W x' y')) (by simp [V.within]) ⟨G, rfl, hup, fin, hpos, Nat.le_trans hlen hr'.e⟩
end Go.Proofs.YtnneehniendnfaaGreat

namespace Go.Proofs.YtnneehniendnfaaGreat
open Go Go.Proofs Go.Proofs.YtnneehniendnfaaGreat.E
set_option linter.unusedSimpArgs false
set_option linter.unusedVariables false
theorem wts_norm {l : List Part} (h : Norm l) : (l.map fun p => p.w.c) = (l.map (·.w.q)).map rq := by
  rw [List.map_map]
  refine List.map_congr_left fun p hp => ?_
  show p.w.c = (rawOf p.w.q).c
  rw [← h p hp]
end Go.Proofs.YtnneehniendnfaaGreat
