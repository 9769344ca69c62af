/- Joined texts: CPri8, CPri9, CPri10, CPri11. -/
import Derived.Test.YtipbefckimdkkaaGreatHE
import Derived.Test.YtipbefckimdkkaaGreatGC
import Derived.Test.YtipbefckimdkkaaGreatProg
import Derived.KernelRfl
import Derived.Test.YtipbefckimdkkaaGreatGW
/- Functions of the program, as the engine reads them; each is held against the translation. -/
namespace Go.Proofs.YtipbefckimdkkaaGreat.F
open Go Go.Proofs Go.Proofs.YtipbefckimdkkaaGreat.E Go.Proofs.YtipbefckimdkkaaGreat.Q
abbrev privacy_Both : Nat := 33
def privacy_Both_c : MFn :=
  ⟨55,(.seq (r [o 4 (.mv (.c .nils)),o 5 (.mv (i 0))] [0,1]) (.seq (.seq (r [o 12 (.mv (.t 0)),o 13 (.mv (.t 1)),o 14 (.call 50 [(.t 12),(.t 13)]),o 15 (.un .not (.t 14))] [0,1,15]) (.cond (.t 15)
  (.seq (r [o 4 (.mv (.c .nils)),o 5 (.mv (i 1))] [4,5]) .ret) .skip)) (.seq (.seq (r [o 16 (.mv (.t 0)),o 17 (.lenS (.t 16)),o 18 (.mv (.t 1)),o 19 (.lenS (.t 18)),o 20 (.bin .mul (.t 17) (.t 19)),
  o 21 (.bin .gtr (.t 20) (i 60))] [0,1,21]) (.cond (.t 21) (.seq (r [o 4 (.mv (.c .nils)),o 5 (.mv (i 2))] [4,5]) .ret) .skip)) (.seq (r [o 6 (.mv (.c .nils))] [0,1,6])
  (.seq (.seq (r [o 22 (.mv (.t 0)),o 23 (.lenS (.t 22)),o 24 (.mv (i 0))] [1,6,22,23,24]) (.block 0 (.loop (.seq (r [o 25 (.bin .lss (.t 24) (.t 23))] [1,6,22,23,24,25]) (.seq (.cond (.t 25)
  .skip (.exit 0)) (.seq (.block 1 (.seq (r [o 26 (.ixA 6 (.t 22) (.t 24)),o 27 (.ld (some 6) (.t 26)),o 8 (.alloc [.int .i64 0,.int .i64 0,.nils,.bool false,.nils,.nils]),z (.st 6 (.t 8)
  (.t 27))] [1,6,8,22,23,24]) (.seq (r [o 28 (.mv (.t 1)),o 29 (.lenS (.t 28)),o 30 (.mv (i 0))] [1,6,8,22,23,24,28,29,30]) (.block 2 (.loop (.seq (r [o 31 (.bin .lss (.t 30) (.t 29))] [1,6,8,22,23,
  24,28,29,30,31]) (.seq (.cond (.t 31) .skip (.exit 2)) (.seq (.block 3 (.seq (r [o 32 (.ixA 6 (.t 28) (.t 30)),o 33 (.ld (some 6) (.t 32)),o 10 (.alloc [.int .i64 0,.int .i64 0,.nils,.bool false,
  .nils,.nils]),z (.st 6 (.t 10) (.t 33))] [1,6,8,10,22,23,24,28,29,30]) (.seq (r [o 34 (.fA 0 (.t 8)),o 35 (.ld (some 3) (.t 34)),o 36 (.callF 67 [(.t 35)]),o 37 (.fA 0 (.t 10)),o 38 (.ld (some 3)
  (.t 37)),o 39 (.callF 67 [(.t 38)]),o 40 (.buildSl 3 2 [.int .i64 0,.int .i64 0,.nils] [(0,(.t 36)),(1,(.t 39))]),o 41 (.build [.int .i64 0,.int .i64 0,.nils] [(0,1,(i 3)),(2,1,(.t 40))]),
  o 11 (.alloc [.int .i64 0,.int .i64 0,.nils]),z (.st 3 (.t 11) (.t 41))] [1,6,8,10,11,22,23,24,28,29,30]) (r [o 42 (.mv (.t 6)),o 43 (.ld (some 3) (.t 11)),o 44 (.fA 3 (.t 8)),o 45 (.ld (some 3)
  (.t 44)),o 46 (.fA 3 (.t 10)),o 47 (.ld (some 3) (.t 46)),o 48 (.callF 79 [(.t 45),(.t 47)]),o 49 (.build [.int .i64 0,.int .i64 0,.nils,.bool false,.nils,.nils] [(0,3,(.t 43)),(3,3,(.t 48))]),
  o 50 (.buildSl 6 1 [.int .i64 0,.int .i64 0,.nils,.bool false,.nils,.nils] [(0,(.t 49))]),o 51 (.app 6 96 (.t 42) (.t 50)),o 6 (.mv (.t 51))] [1,6,8,22,23,24,28,29,30]))))
  (r [o 52 (.bin .add (.t 30) (i 1)),o 30 (.mv (.t 52))] [1,6,8,22,23,24,28,29,30]))))))))) (r [o 53 (.bin .add (.t 24) (i 1)),o 24 (.mv (.t 53))] [1,6,22,23,24]))))))) (.seq (r [o 54 (.mv (.t 6)),
  o 4 (.mv (.t 54)),o 5 (.mv (i 0))] [4,5]) .ret)))))),[.t 4,.t 5]⟩
theorem privacy_Both_ok : cFn Tryz.prog (kps [[0,1],[0,1,15],[4,5],[0,1,21],[4,5],[0,1,6],[1,6,22,23,24],[1,6,22,23,24,25],[1,6,8,22,23,24],[1,6,8,22,23,24,28,29,30],[1,6,8,22,23,24,28,29,30,31],[1,6,8,10,22,23,24,28,29,30],[1,6,8,10,11,22,23,24,28,29,30],[1,6,8,22,23,24,28,29,30],[1,6,8,22,23,24,28,29,30],[1,6,22,23,24],[4,5]]) [] 33 = some privacy_Both_c := by kernel_rfl
end Go.Proofs.YtipbefckimdkkaaGreat.F

namespace Go.Proofs.YtipbefckimdkkaaGreat
open Go Go.Proofs Go.Proofs.YtipbefckimdkkaaGreat.E
set_option linter.unusedSimpArgs false
set_option linter.unusedVariables false
end Go.Proofs.YtipbefckimdkkaaGreat

namespace Go.Proofs.YtipbefckimdkkaaGreat
open Go Go.Proofs Go.Proofs.YtipbefckimdkkaaGreat.E
set_option linter.unusedSimpArgs false
set_option linter.unusedVariables false
def jnt (p q : Part) : Part := ⟨.mk 3 0 [p.v, q.v], rawOf (p.w.q * q.w.q)⟩
def rowJ (p : Part) (b : List Part) : List Part := b.map (jnt p)
def jointL (a b : List Part) : List Part := a.flatMap fun p => rowJ p b
theorem jointL_length (a b : List Part) : (jointL a b).length = a.length * b.length := by
  induction a with
  | nil => simp [jointL]
  | cons p a ih =>
    have e : jointL (p :: a) b = rowJ p b ++ jointL a b := rfl
    rw [e, List.length_append, ih, rowJ, List.length_map, List.length_cons, Nat.add_mul, Nat.one_mul, Nat.add_comm]
theorem jointL_take {a b : List Part} {i : Nat} (h : i < a.length) : jointL (a.take (i + 1)) b = jointL (a.take i) b ++ rowJ a[i] b := by
  unfold jointL; rw [List.take_succ_eq_append_getElem h, List.flatMap_append]; simp
theorem rowJ_take {p : Part} {b : List Part} {j : Nat} (h : j < b.length) : rowJ p (b.take (j + 1)) = rowJ p (b.take j) ++ [jnt p b[j]] := by
  unfold rowJ; rw [List.take_succ_eq_append_getElem h, List.map_append]; rfl
theorem jnt_ok {p q : Part} (hp : p.v.Ok) (hq : q.v.Ok) : (jnt p q).v.Ok := by
  refine .mk (by omega) (by omega) (by simp) fun x hx => ?_
  simp at hx
  rcases hx with rfl | rfl <;> assumption
def bothV (a b : List Part) : V := if rightP a && rightP b then (if 60 < a.length * b.length then .tup [.dat [], .int .i64 2] else .tup [pl (jointL a b), .int .i64 0]) else .tup [.dat [], .int .i64 1]
end Go.Proofs.YtipbefckimdkkaaGreat

namespace Go.Proofs.YtipbefckimdkkaaGreat
open Go Go.Proofs Go.Proofs.YtipbefckimdkkaaGreat.E
set_option linter.unusedSimpArgs false
set_option linter.unusedVariables false
def jRow (e : Nat × Part × Part) : List V := [.int .i64 3, .int .i64 0, .ref e.1 0 2] ++ (rawOf (e.2.1.w.q * e.2.2.w.q)).c
def jObj (e : Nat × Part × Part) : Ob := ⟨.own, 3, [e.2.1.v.cells, e.2.2.v.cells]⟩
structure Nst (σ : Sto) (q : Nat) (J : List (Nat × Part × Part)) : Prop where
  out : J ≠ [] → E.look σ q = some ⟨.own, 6, J.map jRow⟩
  each : ∀ e ∈ J, E.look σ e.1 = some (jObj e)
def jParts (J : List (Nat × Part × Part)) : List Part := J.map fun e => jnt e.2.1 e.2.2
theorem partC_jnt (p q : Part) : partC (jnt p q) = [.int .i64 3, .int .i64 0, .dat [p.v.cells, q.v.cells]] ++ (rawOf (p.w.q * q.w.q)).c := by
  unfold partC jnt; rw [cells_mk]; rfl
theorem jRow_toD {σ : Sto} {e : Nat × Part × Part} (h : E.look σ e.1 = some (jObj e)) (n : Nat) : mapO (toD σ (n + 3)) (jRow e) = some (partC (jnt e.2.1 e.2.2)) := by
  have hr : toD σ (n + 3) (.ref e.1 0 2) = some (.dat [e.2.1.v.cells, e.2.2.v.cells]) :=
    E.toD_ref (k := n + 2) (st := .own) (es := 3) h (by simp) (by simp) (by simp) (by simp) (fun r hr => by simp at hr; rcases hr with rfl | rfl <;> exact toD_cells _ _ _)
  rw [partC_jnt]
  unfold jRow
  simp only [List.cons_append, List.nil_append, mapO]
  rw [hr, toD_rawc]
  rfl
theorem Nst.data {σ : Sto} {q : Nat} {J : List (Nat × Part × Part)} (h : Nst σ q J) : toD σ 11 (grown q J.length) = some (pl (jParts J)) := by
  by_cases h0 : J = []
  · subst h0; rfl
  · have hn : J.length ≠ 0 := fun e => h0 (List.length_eq_zero_iff.1 e)
    rw [grown_pos hn]
    refine E.toD_refM (k := 10) (st := .own) (es := 6) (h.out h0) (by simp) (by simp) (by simp) ?_
    rw [jParts, List.map_map]
    clear hn h0
    have key : ∀ (G : List (Nat × Part × Part)), (∀ e ∈ G, E.look σ e.1 = some (jObj e)) → mapO (mapO (toD σ 10)) (G.map jRow) = some (G.map fun e => partC (jnt e.2.1 e.2.2)) := by
      intro G hG
      induction G with
      | nil => rfl
      | cons e G ih =>
        simp only [List.map_cons, mapO]
        rw [jRow_toD (n := 7) (hG e (by simp)), ih fun e he => hG e (by simp [he])]
    exact key J h.each
theorem Nst.add {σ τ : Sto} {q q' : Nat} {J : List (Nat × Part × Part)} {e : Nat × Part × Part} (h : Nst σ q J) (h1 : E.look τ q' = some ⟨.own, 6, J.map jRow ++ [jRow e]⟩) (h2 : E.look τ e.1 = some (jObj e)) (h3 : ∀ d ∈ J, E.look τ d.1 = E.look σ d.1) : Nst τ q' (J ++ [e]) := by
  refine ⟨fun _ => by rw [h1]; simp, fun d hd => ?_⟩
  rcases List.mem_append.1 hd with hd | hd
  · rw [h3 d hd]; exact h.each d hd
  · simp at hd; subst hd; exact h2
end Go.Proofs.YtipbefckimdkkaaGreat

namespace Go.Proofs.YtipbefckimdkkaaGreat
open Go Go.Proofs Go.Proofs.YtipbefckimdkkaaGreat.E
set_option linter.unusedSimpArgs false
set_option linter.unusedVariables false
theorem fresh_setOb (σ : Sto) (o : Nat) (x : Ob) : fresh (setOb σ o x) = max (o + 1) (fresh σ) := by
  have := fresh_filter σ o
  simp only [setOb, fresh]
  exact this
theorem Nst.lt {σ : Sto} {q : Nat} {J : List (Nat × Part × Part)} (h : Nst σ q J) : (∀ e ∈ J, e.1 < fresh σ) ∧ (J ≠ [] → q < fresh σ) :=
  ⟨fun e he => lt_fresh (h.each e he), fun hJ => lt_fresh (h.out hJ)⟩
theorem Nst.new {σ : Sto} {q : Nat} {J : List (Nat × Part × Part)} (h : Nst σ q J) (x : Ob) : Nst (setOb σ (fresh σ) x) q J := by
  obtain ⟨h1, h2⟩ := h.lt
  refine ⟨fun hJ => ?_, fun e he => ?_⟩
  · rw [look_setOb, if_neg (by have := h2 hJ; omega)]; exact h.out hJ
  · rw [look_setOb, if_neg (by have := h1 e he; omega)]; exact h.each e he
theorem partC_plain (p : Part) : Plain [partC p] := fun r hr y hy f => by
  simp at hr; subst hr
  simp [partC] at hy
  rcases hy with hy | hy
  · exact cells_within _ y hy
  · exact rawc_within _ y hy
theorem shut_setg {σ : Sto} {o : Nat} {x : Ob} (h : Shut σ) (hx : ∀ r ∈ x.cells, ∀ y ∈ r, y.within (fun q => (E.look (setOb σ o x) q).isSome) = true) : Shut (setOb σ o x) := by
  intro p y hp hd r hr z hz
  rw [look_setOb] at hp
  split at hp
  · injection hp with hp; subst hp; exact hx r hr z hz
  · exact within_set (h p y hp hd r hr z hz)
theorem jRow_within {e : Nat × Part × Part} {f : Nat → Bool} (h : f e.1 = true) : ∀ y ∈ jRow e, y.within f = true := by
  intro y hy
  unfold jRow at hy
  simp at hy
  rcases hy with rfl | rfl | rfl | hy
  · simp
  · simp
  · simpa using h
  · exact rawc_within _ y hy
structure BothJ (a b : List Part) (i : Nat) (p : Part) (o j q : Nat) (J : List (Nat × Part × Part)) (τ : Sto) : Prop where
  le : j ≤ b.length
  nst : Nst τ q J
  nq : ∀ e ∈ J, e.1 ≠ q
  part : E.look τ o = some ⟨.own, 6, [partC p]⟩
  no : ∀ e ∈ J, e.1 ≠ o
  oq : J ≠ [] → q ≠ o
  shut : Shut τ
  parts : jParts J = jointL (a.take i) b ++ rowJ p (b.take j)
set_option maxHeartbeats 8000000 in
theorem privacy_Both {a b : List Part} (la : a.length ≤ 1000) (lb : b.length ≤ 1000) (oa : ∀ p ∈ a, p.Ok 1000000) (ob : ∀ p ∈ b, p.Ok 1000000) (ma : ∀ p ∈ a, manyT p.v ≤ 60) (mb : ∀ p ∈ b, manyT p.v ≤ 60) : CallD Tryz.prog F.privacy_Both [pl a, pl b] (· = bothV a b) := by
  refine callD_by F.privacy_Both_ok ?_
  unfold F.privacy_Both_c bothV
  simp [setOb, List.filter_cons]
  refine callK_of (privacy_both (by omega) (by omega) oa ob) (by simp) ?_
  cases ra : rightP a with
  | false => simp [setOb, List.filter_cons]
  | true =>
  cases rb : rightP b with
  | false => simp [setOb, List.filter_cons]
  | true =>
  have ga := good_of ra oa
  have gb := good_of rb ob
  have la := ga.le
  have lb := gb.le
  have hmul : a.length * b.length ≤ 60 * 60 := Nat.mul_le_mul la lb
  have emul : ((a.length * b.length : Nat) : Int) = (a.length : Int) * b.length := by simp
  simp
  rw [← emul, wrap64 (by omega) (by omega)]
  by_cases hbig : 60 < a.length * b.length
  · have i1 : (60 : Int) < (a.length : Int) * b.length := by rw [← emul]; omega
    have i2 : ¬ (a.length : Int) * b.length ≤ 60 := by rw [← emul]; omega
    simp [hbig, i1, i2, setOb, List.filter_cons]
  have i1 : ¬ (60 : Int) < (a.length : Int) * b.length := by rw [← emul]; omega
  have i2 : (a.length : Int) * b.length ≤ 60 := by rw [← emul]; omega
  simp [hbig, i1, i2]
  refine wm_loop (fun g : Nat × Nat × List (Nat × Part × Part) × Sto => (((((Sl.empty.set 24 (.int .i64 g.1)).set 23 (.int .i64 a.length)).set 22 (pl a)).set 6 (grown g.2.1 g.2.2.1.length)).set 1 (pl b), g.2.2.2))
    (fun g => g.1 ≤ a.length ∧ Nst g.2.2.2 g.2.1 g.2.2.1 ∧ (∀ e ∈ g.2.2.1, e.1 ≠ g.2.1) ∧ Shut g.2.2.2 ∧ jParts g.2.2.1 = jointL (a.take g.1) b) (fun g => a.length - g.1) (0, 0, [], [])
    ⟨by simp, ⟨fun h => (h rfl).elim, fun e he => by simp at he⟩, fun e he => by simp at he, shut_nil, rfl⟩ ?_ ?_
  · exact weak_p (by simp only [List.length_nil, grown_zero]; repeat (first | exact sub_empty | refine sub_set (by simp) ?_)) (by simp only [List.length_nil, grown_zero]; repeat (first | exact sin_empty | refine sin_set (by simp) ?_))
  rintro ⟨i, q, J, σ⟩ ⟨hi, hn, hnq, hs, hp⟩
  dsimp only at hi hn hnq hs hp
  by_cases h1 : i < a.length
  · have okA := ga.ok _ (List.getElem_mem h1)
    have tkA : List.take 6 (partC a[i]) = partC a[i] := by simp
    simp [h1, E.setOb_setOb]
    obtain ⟨lt1, lt2⟩ := hn.lt
    have hst := jointL_take (b := b) h1
    refine wm_loop (fun g : Nat × Nat × List (Nat × Part × Part) × Sto => (((((((((Sl.empty.set 30 (.int .i64 g.1)).set 29 (.int .i64 b.length)).set 28 (pl b)).set 24 (.int .i64 i)).set 23 (.int .i64 a.length)).set 22 (pl a)).set 8 (.ptr (fresh σ) 0 0)).set 6 (grown g.2.1 g.2.2.1.length)).set 1 (pl b), g.2.2.2))
      (fun g => BothJ a b i a[i] (fresh σ) g.1 g.2.1 g.2.2.1 g.2.2.2) (fun g => b.length - g.1) (0, q, J, setOb σ (fresh σ) ⟨.own, 6, [partC a[i]]⟩)
      ⟨by simp, hn.new _, hnq, by simp, fun e he => by have := lt1 e he; omega, fun hJ => by have := lt2 hJ; show q ≠ fresh σ; omega, shut_set hs (partC_plain _), by rw [hp]; simp [rowJ]⟩ ?_ ?_
    · refine weak_gen ?_ (Has.refl _) (by simp) ?_ (shut_set hs (partC_plain _))
      · repeat (first | exact sub_empty | refine sub_set (by simp) ?_)
      · by_cases hJ : J = []
        · subst hJ
          simp only [List.length_nil, grown_zero]
          repeat (first | exact sin_empty | refine sin_set (by first | (simp; done) | (simp only [within_ref, within_ptr, look_setOb]; simp)) ?_)
        · have hJl : J.length ≠ 0 := fun e => hJ (List.length_eq_zero_iff.1 e)
          have hq := (hn.new ⟨.own, 6, [partC a[i]]⟩).out hJ
          simp only [grown_pos hJl]
          repeat (first | exact sin_empty | refine sin_set (by first | (simp; done) | (simp only [within_ref]; rw [hq]; rfl)) ?_)
    rintro ⟨j, q', K, τ⟩ I
    dsimp only at I
    have hpt := I.part
    by_cases h2 : j < b.length
    · have okB := gb.ok _ (List.getElem_mem h2)
      have tkB : List.take 6 (partC b[j]) = partC b[j] := by simp
      have fo : ¬ fresh σ = fresh τ := by have := lt_fresh hpt; omega
      have fo1 : ¬ fresh σ = fresh τ + 1 := by have := lt_fresh hpt; omega
      have fo2 : ¬ fresh σ = fresh τ + 1 + 1 := by have := lt_fresh hpt; omega
      have hst2 := rowJ_take (p := a[i]) h2
      obtain ⟨k1, k2⟩ := I.nst.lt
      have klen : K.length ≤ 10000 := by
        have e := congrArg List.length I.parts
        rw [List.length_append, jointL_length, rowJ, List.length_map, List.length_take, List.length_take, jParts, List.length_map] at e
        have : min i a.length * b.length ≤ 60 * 60 := Nat.mul_le_mul (by omega) lb
        omega
      have next : ∀ (τ' : Sto) (S' : Sl), BothJ a b i a[i] (fresh σ) (j + 1) (fresh τ + 1 + 1 + 1 + 1) (K ++ [(fresh τ + 1, a[i], b[j])]) τ' →
          (S' 30 = some (.int .i64 ((j : Int) + 1)) ∧ S' 29 = some (.int .i64 b.length) ∧ S' 28 = some (pl b) ∧ S' 24 = some (.int .i64 i) ∧ S' 23 = some (.int .i64 a.length) ∧ S' 22 = some (pl a) ∧ S' 8 = some (.ptr (fresh σ) 0 0) ∧ S' 6 = some (.ref (fresh τ + 1 + 1 + 1 + 1) 0 (K.length + 1)) ∧ S' 1 = some (pl b)) →
          Again [] (fun g : Nat × Nat × List (Nat × Part × Part) × Sto => (((((((((Sl.empty.set 30 (.int .i64 g.1)).set 29 (.int .i64 b.length)).set 28 (pl b)).set 24 (.int .i64 i)).set 23 (.int .i64 a.length)).set 22 (pl a)).set 8 (.ptr (fresh σ) 0 0)).set 6 (grown g.2.1 g.2.2.1.length)).set 1 (pl b), g.2.2.2))
            (fun g => BothJ a b i a[i] (fresh σ) g.1 g.2.1 g.2.2.1 g.2.2.2) (fun g => b.length - g.1) (j, q', K, τ) S' τ' := by
        rintro τ' S' I' ⟨s1, s2, s3, s4, s5, s6, s7, s8, s9⟩
        refine ⟨(j + 1, fresh τ + 1 + 1 + 1 + 1, K ++ [(fresh τ + 1, a[i], b[j])], τ'), I', by dsimp only; omega, ?_⟩
        have n1 : (K ++ [(fresh τ + 1, a[i], b[j])]).length ≠ 0 := by simp
        have e1 : grown (fresh τ + 1 + 1 + 1 + 1) (K ++ [(fresh τ + 1, a[i], b[j])]).length = .ref (fresh τ + 1 + 1 + 1 + 1) 0 (K.length + 1) := by rw [grown_pos n1]; simp
        have ho := I'.nst.out (by simp)
        have hpt' := I'.part
        dsimp only
        rw [e1]
        refine weak_gen ?_ (Has.refl _) (by simp) ?_ I'.shut
        · exact sub_set s9 (sub_set s8 (sub_set s7 (sub_set s6 (sub_set s5 (sub_set s4 (sub_set s3 (sub_set s2 (sub_set s1 sub_empty))))))))
        · repeat (first | exact sin_empty | refine sin_set (by first | (simp; done) | (simp only [within_ref]; rw [ho]; rfl) | (simp only [within_ptr]; rw [hpt']; rfl)) ?_)
      simp [h2, E.setOb_setOb]
      simp [hpt, fo, getOb, fresh_setOb]
      refine callFK_of (own_Value okA.v (ma _ (List.getElem_mem h1))) (by simp [toD_cells]) ?_
      simp [hpt, fo, getOb, fresh_setOb, frz_nil]
      refine callFK_of (own_Value okB.v (mb _ (List.getElem_mem h2))) (by simp [toD_cells]) ?_
      simp (disch := omega) [hpt, fo, fo1, fo2, getOb, fresh_setOb, frz_nil, Nat.max_eq_left, Nat.max_eq_right, if_neg, if_pos, E.setOb_setOb]
      refine callFK_of (ratio_Mul (okA.w.mono (by omega)) (okB.w.mono (by omega))) (by simp [toD_rawc, raw_v]) ?_
      by_cases hK : K = []
      · subst hK
        simp (disch := omega) [ratV, raw_v, hpt, fo, fo1, fo2, getOb, fresh_setOb, frz_nil, grown_zero, Nat.max_eq_left, Nat.max_eq_right, if_neg, if_pos, E.setOb_setOb]
        rw [wrap64 (by omega) (by omega)]
        have hs1 : Shut (setOb τ (fresh τ) ⟨.own, 6, [partC b[j]]⟩) := shut_set I.shut (partC_plain _)
        have hs2 := shut_set (o := fresh τ + 1) (x := ⟨.own, 3, [a[i].v.cells, b[j].v.cells]⟩) hs1 (fun r hr y hy f => by simp at hr; rcases hr with rfl | rfl <;> exact cells_within _ y hy)
        have hs3 := shut_setg (o := fresh τ + 1 + 1) (x := ⟨.own, 3, [[V.int IntKind.i64 3, V.int IntKind.i64 0, V.ref (fresh τ + 1) 0 2]]⟩) hs2 (fun r hr y hy => by
          simp only [List.mem_singleton] at hr; subst hr
          simp only [List.mem_cons, List.not_mem_nil, or_false] at hy
          rcases hy with rfl | rfl | rfl
          · simp
          · simp
          · simp only [within_ref, look_setOb]; simp)
        have hs4 := shut_setg (o := fresh τ + 1 + 1 + 1) (x := ⟨.own, 6, [jRow (fresh τ + 1, a[i], b[j])]⟩) hs3 (fun r hr y hy => by
          simp only [List.mem_singleton] at hr; subst hr
          exact jRow_within (by simp only [look_setOb]; simp) y hy)
        have hs5 := shut_setg (o := fresh τ + 1 + 1 + 1 + 1) (x := ⟨.own, 6, [jRow (fresh τ + 1, a[i], b[j])]⟩) hs4 (fun r hr y hy => by
          simp only [List.mem_singleton] at hr; subst hr
          exact jRow_within (by simp only [look_setOb]; simp) y hy)
        refine next _ _ ⟨h2, I.nst.add (e := (fresh τ + 1, a[i], b[j])) (by simp [look_setOb, jRow]) (by simp [look_setOb, jObj]) (by simp), ?_, ?_, ?_, ?_, hs5, ?_⟩ (by simp)
        · intro e he; simp at he; subst he; simp
        · have := lt_fresh hpt
          simp (disch := omega) [look_setOb, hpt, if_neg]
        · intro e he; simp at he; subst he; exact fun h => fo1 h.symm
        · intro _; have := lt_fresh hpt; omega
        · have := I.parts; rw [hst2, ← List.append_assoc, ← this]; simp [jParts]
      · have n0 : K.length ≠ 0 := fun e => hK (List.length_eq_zero_iff.1 e)
        have hout := I.nst.out hK
        have hql := k2 hK
        rw [grown_pos n0]
        simp (disch := omega) [ratV, raw_v, hpt, hout, fo, fo1, fo2, getOb, fresh_setOb, frz_nil, Nat.max_eq_left, Nat.max_eq_right, if_neg, if_pos, E.setOb_setOb]
        rw [wrap64 (by omega) (by omega)]
        have hs1 : Shut (setOb τ (fresh τ) ⟨.own, 6, [partC b[j]]⟩) := shut_set I.shut (partC_plain _)
        have hs2 := shut_set (o := fresh τ + 1) (x := ⟨.own, 3, [a[i].v.cells, b[j].v.cells]⟩) hs1 (fun r hr y hy f => by simp at hr; rcases hr with rfl | rfl <;> exact cells_within _ y hy)
        have hs3 := shut_setg (o := fresh τ + 1 + 1) (x := ⟨.own, 3, [[V.int IntKind.i64 3, V.int IntKind.i64 0, V.ref (fresh τ + 1) 0 2]]⟩) hs2 (fun r hr y hy => by
          simp only [List.mem_singleton] at hr; subst hr
          simp only [List.mem_cons, List.not_mem_nil, or_false] at hy
          rcases hy with rfl | rfl | rfl
          · simp
          · simp
          · simp only [within_ref, look_setOb]; simp)
        have hs4 := shut_setg (o := fresh τ + 1 + 1 + 1) (x := ⟨.own, 6, [jRow (fresh τ + 1, a[i], b[j])]⟩) hs3 (fun r hr y hy => by
          simp only [List.mem_singleton] at hr; subst hr
          exact jRow_within (by simp only [look_setOb]; simp) y hy)
        have hs4' := shut_setg (o := q') (x := ⟨.dead, 6, []⟩) hs4 (fun r hr y hy => by simp at hr)
        have hoq := I.oq hK
        have hlt := lt_fresh hpt
        have lk : ∀ d ∈ K, E.look (setOb (setOb (setOb (setOb (setOb (setOb τ (fresh τ) ⟨.own, 6, [partC b[j]]⟩) (fresh τ + 1) ⟨.own, 3, [a[i].v.cells, b[j].v.cells]⟩) (fresh τ + 1 + 1) ⟨.own, 3, [[V.int IntKind.i64 3, V.int IntKind.i64 0, V.ref (fresh τ + 1) 0 2]]⟩) (fresh τ + 1 + 1 + 1) ⟨.own, 6, [jRow (fresh τ + 1, a[i], b[j])]⟩) q' ⟨.dead, 6, []⟩) (fresh τ + 1 + 1 + 1 + 1) ⟨.own, 6, K.map jRow ++ [jRow (fresh τ + 1, a[i], b[j])]⟩) d.1 = E.look τ d.1 := fun d hd => by
          have h8 := k1 d hd
          have h9 := I.nq d hd
          simp (disch := omega) [look_setOb, h9, if_neg]
        have hs5 := shut_setg (o := fresh τ + 1 + 1 + 1 + 1) (x := ⟨.own, 6, K.map jRow ++ [jRow (fresh τ + 1, a[i], b[j])]⟩) hs4' (fun r hr y hy => by
          rcases List.mem_append.1 hr with hr | hr
          · obtain ⟨d, hd, rfl⟩ := List.mem_map.1 hr
            exact jRow_within (by rw [lk d hd, I.nst.each d hd]; rfl) y hy
          · simp only [List.mem_singleton] at hr; subst hr
            refine jRow_within ?_ y hy
            have : ¬ fresh τ + 1 = q' := by omega
            simp [look_setOb, this])
        refine next _ _ ⟨h2, I.nst.add (e := (fresh τ + 1, a[i], b[j])) (by simp [look_setOb, jRow]) ?_ lk, ?_, ?_, ?_, ?_, hs5, ?_⟩ (by simp)
        · have : ¬ fresh τ + 1 = q' := by omega
          simp [look_setOb, jObj, this]
        · intro e he
          rcases List.mem_append.1 he with he | he
          · have := k1 e he; omega
          · simp at he; subst he; simp
        · have : ¬ fresh σ = q' := fun h => hoq h.symm
          simp (disch := omega) [look_setOb, hpt, this, if_neg]
        · intro e he
          rcases List.mem_append.1 he with he | he
          · exact I.no e he
          · simp at he; subst he; exact fun h => fo1 h.symm
        · intro _; omega
        · have := I.parts; rw [hst2, ← List.append_assoc, ← this]; simp [jParts]
    · have hjl : j = b.length := by have := I.le; omega
      subst hjl
      have hpa := I.parts
      rw [List.take_length, ← hst] at hpa
      simp [h2]
      rw [wrap64 (by omega) (by omega)]
      refine ⟨(i + 1, q', K, τ), ⟨h1, I.nst, fun a c d hm => I.nq _ hm, I.shut, hpa⟩, by dsimp only; omega, ?_⟩
      dsimp only
      refine weak_gen ?_ (Has.refl _) (by simp) ?_ I.shut
      · repeat (first | exact sub_empty | refine sub_set (by simp) ?_)
      · by_cases hK : K = []
        · subst hK
          simp only [List.length_nil, grown_zero]
          repeat (first | exact sin_empty | refine sin_set (by simp) ?_)
        · have n0 : K.length ≠ 0 := fun e => hK (List.length_eq_zero_iff.1 e)
          have hq := I.nst.out hK
          simp only [grown_pos n0]
          repeat (first | exact sin_empty | refine sin_set (by first | (simp; done) | (simp only [within_ref]; rw [hq]; rfl)) ?_)
  · have hil : i = a.length := by omega
    subst hil
    rw [List.take_length] at hp
    simp [h1]
    rw [hn.data, hp]
end Go.Proofs.YtipbefckimdkkaaGreat
