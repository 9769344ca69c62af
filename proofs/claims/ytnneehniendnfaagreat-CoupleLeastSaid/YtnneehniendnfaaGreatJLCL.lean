/- CoupleLeast, over data. -/
import Derived.Test.YtnneehniendnfaaGreatJLCB
import Derived.Test.YtnneehniendnfaaGreatJDK
/- Functions of the program, as the engine reads them; each is held against the translation. -/
namespace Go.Proofs.YtnneehniendnfaaGreat.F
open Go Go.Proofs Go.Proofs.YtnneehniendnfaaGreat.E Go.Proofs.YtnneehniendnfaaGreat.Q
abbrev law35_off : Nat := 26
def law35_off_c : MFn :=
  ⟨44,(.seq (r [o 6 (.alloc [.bool false,.nils,.nils])] [0,1,2,6]) (.seq (r [o 9 (.call 29 []),o 7 (.alloc [.bool false,.nils,.nils]),z (.st 3 (.t 7) (.t 9))] [0,1,2,6,7])
  (.seq (.seq (r [o 10 (.mv (.t 2)),o 11 (.lenS (.t 10)),o 12 (.mv (i 0))] [0,1,2,6,7,11,12]) (.block 0 (.loop (.seq (r [o 13 (.bin .lss (.t 12) (.t 11))] [0,1,2,6,7,11,12,13]) (.seq (.cond (.t 13)
  .skip (.exit 0)) (.seq (.block 1 (.seq (r [o 14 (.mv (.t 12)),o 8 (.mv (.t 14))] [0,1,2,6,7,8,11,12]) (.seq (r [o 15 (.mv (.t 0)),o 16 (.mv (.t 2)),o 17 (.mv (.t 8)),o 18 (.ixA 5 (.t 16) (.t 17)),
  o 19 (.fA 0 (.t 18)),o 20 (.ld none (.t 19)),o 21 (.ixA 6 (.t 15) (.t 20)),o 22 (.fA 0 (.t 21)),o 23 (.ld (some 3) (.t 22)),o 24 (.mv (.t 1)),o 25 (.mv (.t 2)),o 26 (.mv (.t 8)),
  o 27 (.ixA 5 (.t 25) (.t 26)),o 28 (.fA 1 (.t 27)),o 29 (.ld none (.t 28)),o 30 (.ixA 6 (.t 24) (.t 29)),o 31 (.fA 0 (.t 30)),o 32 (.ld (some 3) (.t 31)),o 33 (.callF 68 [(.t 23),(.t 32)]),
  o 34 (.un .not (.t 33))] [0,1,2,6,7,8,11,12,34]) (.cond (.t 34) (r [o 35 (.ld (some 3) (.t 7)),o 36 (.mv (.t 2)),o 37 (.mv (.t 8)),o 38 (.ixA 5 (.t 36) (.t 37)),o 39 (.fA 2 (.t 38)),
  o 40 (.ld (some 3) (.t 39)),o 41 (.callF 30 [(.t 35),(.t 40)]),z (.st 3 (.t 7) (.t 41))] [0,1,2,6,7,11,12]) .skip)))) (r [o 42 (.bin .add (.t 12) (i 1)),o 12 (.mv (.t 42))] [0,1,2,6,7,11,12])))))))
  (.seq (r [o 43 (.ld (some 3) (.t 7)),z (.st 3 (.t 6) (.t 43))] [6]) .ret)))),[.cell 6 (some 3)]⟩
theorem law35_off_ok : cFn Tryz.prog (kps [[0,1,2,6],[0,1,2,6,7],[0,1,2,6,7,11,12],[0,1,2,6,7,11,12,13],[0,1,2,6,7,8,11,12],[0,1,2,6,7,8,11,12,34],[0,1,2,6,7,11,12],[0,1,2,6,7,11,12],[6]]) [] 26 = some law35_off_c := by kernel_rfl
abbrev law35_CoupleLeast : Nat := 5
def law35_CoupleLeast_c : MFn :=
  ⟨85,(.seq (r [o 6 (.mv (.c (.bool false)))] [0,1,2]) (.seq (.seq (r [o 11 (.mv (.t 0)),o 12 (.call 12 [(.t 11)]),o 13 (.un .not (.t 12)),o 14 (.mv (.t 13)),n 15 14 (.mv (.t 1)),
  n 16 14 (.call 12 [(.t 15)]),n 17 14 (.un .not (.t 16)),o 18 (.pick (.t 14) (.c (.bool true)) (.t 17)),o 19 (.mv (.t 18)),n 20 19 (.mv (.t 2)),n 21 19 (.call 13 [(.t 20)]),
  n 22 19 (.un .not (.t 21)),o 23 (.pick (.t 19) (.c (.bool true)) (.t 22)),o 24 (.mv (.t 23)),n 25 24 (.mv (.t 0)),n 26 24 (.call 15 [(.t 25)]),n 27 24 (.un .not (.t 26)),o 28 (.pick (.t 24)
  (.c (.bool true)) (.t 27)),o 29 (.mv (.t 28)),n 30 29 (.mv (.t 1)),n 31 29 (.call 15 [(.t 30)]),n 32 29 (.un .not (.t 31)),o 33 (.pick (.t 29) (.c (.bool true)) (.t 32))] [0,1,2,33]) (.cond (.t 33)
  (.seq (r [o 6 (.mv (.c (.bool true)))] [6]) .ret) .skip)) (.seq (r [o 35 (.mv (.t 0)),o 36 (.mv (.t 1)),o 37 (.call 20 [(.t 35),(.t 36)]),o 34 (.mv (.t 37)),o 38 (.ext (.t 34) 0),o 39 (.ext (.t 34)
  1),o 7 (.alloc [.bool false,.nils,.nils]),z (.st 3 (.t 7) (.t 38)),o 8 (.mv (.t 39))] [0,1,2,7,8]) (.seq (r [o 41 (.mv (.t 0)),o 42 (.mv (.t 1)),o 43 (.call 22 [(.t 41),(.t 42)]),o 40 (.mv (.t 43)),
  o 44 (.ext (.t 40) 0),o 45 (.ext (.t 40) 1),o 9 (.mv (.t 44)),o 10 (.mv (.t 45))] [0,1,2,7,8,9,10]) (.seq (.seq (r [o 46 (.mv (.t 8)),o 47 (.bin .neq (.t 46) (i 0)),o 48 (.mv (.t 47)),
  n 49 48 (.mv (.t 10)),n 50 48 (.bin .neq (.t 49) (i 0)),o 51 (.pick (.t 48) (.c (.bool true)) (.t 50)),o 52 (.mv (.t 51)),n 53 52 (.mv (.t 0)),n 54 52 (.mv (.t 1)),n 55 52 (.mv (.t 9)),
  n 56 52 (.callF 16 [(.t 53),(.t 54),(.t 55)]),n 57 52 (.un .not (.t 56)),o 58 (.pick (.t 52) (.c (.bool true)) (.t 57)),o 59 (.mv (.t 58)),n 60 59 (.mv (.t 0)),n 61 59 (.mv (.t 1)),
  n 62 59 (.mv (.t 9)),n 63 59 (.callF 26 [(.t 60),(.t 61),(.t 62)]),n 64 59 (.ld (some 3) (.t 7)),n 65 59 (.callF 24 [(.t 63),(.t 64)]),n 66 59 (.un .not (.t 65)),o 67 (.pick (.t 59)
  (.c (.bool true)) (.t 66))] [0,1,2,7,67]) (.cond (.t 67) (.seq (r [o 6 (.mv (.c (.bool false)))] [6]) .ret) .skip)) (.seq (r [o 68 (.mv (.t 0)),o 69 (.mv (.t 1)),o 70 (.mv (.t 2)),
  o 71 (.callF 16 [(.t 68),(.t 69),(.t 70)]),o 72 (.un .not (.t 71)),o 73 (.mv (.t 72)),n 74 73 (.mv (.t 0)),n 75 73 (.mv (.t 1)),n 76 73 (.mv (.t 2)),n 77 73 (.callF 26 [(.t 74),(.t 75),(.t 76)]),
  n 78 73 (.ld (some 3) (.t 7)),n 79 73 (.callF 27 [(.t 77),(.t 78)]),n 80 73 (.bin .geq (.t 79) (i 0)),o 81 (.pick (.t 73) (.c (.bool true)) (.t 80)),o 82 (.mv (.t 81)),y 83 82 (.callF 19 []),
  o 84 (.pick (.t 82) (.t 83) (.c (.bool false))),o 6 (.mv (.t 84))] [6]) .ret)))))),[.t 6]⟩
theorem law35_CoupleLeast_ok : cFn Tryz.prog (kps [[0,1,2],[0,1,2,33],[6],[0,1,2,7,8],[0,1,2,7,8,9,10],[0,1,2,7,67],[6],[6]]) [] 5 = some law35_CoupleLeast_c := by kernel_rfl
end Go.Proofs.YtnneehniendnfaaGreat.F

namespace Go.Proofs.YtnneehniendnfaaGreat
open Go Go.Proofs Go.Proofs.YtnneehniendnfaaGreat.E
set_option linter.unusedSimpArgs false
set_option linter.unusedVariables false
def offP (a b : List Part) (p : Pr) : Rat := if va a p.A = va b p.B then 0 else p.w.q
theorem offQ_by (a b : List Part) (ps : List Pr) : offQ a b (ps.map Pr.pq) = sumBy (offP a b) ps := by
  unfold offQ; rw [sumBy_map]; rfl
theorem offP_fits {a b : List Part} {p : Pr} {k : Nat} (h : p.w.Ok k) (h1 : 1 ≤ k) : Fits (offP a b p) k := by
  unfold offP; split
  · exact fits_zero.mono h1
  · exact Raw.fits h h1
theorem prC_get0 (p : Pr) (h : 0 < (prC p).length) : (prC p)[0]'h = .int .i64 p.A := (rfl)
theorem prC_get1 (p : Pr) (h : 1 < (prC p).length) : (prC p)[1]'h = .int .i64 p.B := (rfl)
theorem law35_off {a b : List Part} {ps : List Pr} (oa : ∀ p ∈ a, p.Ok 1000000) (ob : ∀ p ∈ b, p.Ok 1000000) {K : Nat} (k1 : 1 ≤ K) (kl : K ≤ 2 ^ 31) (lp : ps.length ≤ 60) (kK : ps.length * (K + 1) + 1000002 ≤ 2 ^ 31) (op : ∀ p ∈ ps, p.w.Ok K)
    (hr : ∀ p ∈ ps, (0 ≤ p.A ∧ p.A < a.length) ∧ (0 ≤ p.B ∧ p.B < b.length)) : CallD Tryz.prog F.law35_off [pl a, pl b, prl ps] (· = ratV (offQ a b (ps.map Pr.pq))) := by
  rw [offQ_by]
  refine callD_by F.law35_off_ok ?_
  unfold F.law35_off_c
  simp [setOb, List.filter_cons]
  refine callK_of ref02_Zero (by simp) ?_
  simp [setOb, List.filter_cons, ratV, raw_v]
  refine wm_loop (fun g : Nat => (((((((Sl.empty.set 12 (.int .i64 g)).set 11 (.int .i64 ps.length)).set 7 (.ptr 1 0 0)).set 6 (.ptr 0 0 0)).set 2 (prl ps)).set 1 (pl b)).set 0 (pl a), [(0, ⟨.own, 3, [[.bool false, .nils, .nils]]⟩), (1, ⟨.own, 3, [(rawOf (sumBy (offP a b) (ps.take g))).c]⟩)]))
    (fun g => g ≤ ps.length) (fun g => ps.length - g) 0 (by omega) ?_ ?_
  · refine weak_obs ?_ (by simp [sumBy]) (by repeat (first | exact sin_empty | refine sin_set (by simp) ?_)) (by simp; exact fun y hy => rawc_within _ y hy)
    repeat (first | exact sub_empty | refine sub_set (by simp) ?_)
  intro i hi
  have hsum : ∀ n, n ≤ ps.length → Fits (sumBy (offP a b) (ps.take n)) (2 ^ 31) := fun n hn => by
    refine (sumBy_fits (k := K) _ fun p hp => offP_fits (op p (List.mem_of_mem_take hp)) k1).mono ?_
    rw [List.length_take]
    have : min n ps.length * (K + 1) ≤ ps.length * (K + 1) := Nat.mul_le_mul_right _ (by omega)
    omega
  by_cases h1 : i < ps.length
  · have hst := sumBy_take (f := offP a b) h1
    have hin := hr _ (List.getElem_mem h1)
    have how := op _ (List.getElem_mem h1)
    generalize hp : ps[i] = p at *
    obtain ⟨⟨A, eA⟩, B, eB⟩ := And.intro (Int.eq_ofNat_of_zero_le hin.1.1) (Int.eq_ofNat_of_zero_le hin.2.1)
    have lA : A < a.length := by omega
    have lB : B < b.length := by omega
    have okA := oa _ (List.getElem_mem lA)
    have okB := ob _ (List.getElem_mem lB)
    have evA : va a p.A = a[A].v := by rw [eA]; exact va_eq lA
    have evB : va b p.B = b[B].v := by rw [eB]; exact va_eq lB
    have hacc : (rawOf (sumBy (offP a b) (ps.take i))).Ok (2 ^ 31) := rawOf_ok (hsum i hi)
    simp [h1, hp, prC_get0, prC_get1, eA, eB, lA, lB]
    refine callFK_of (ref03_Same okA.v okB.v) (by simp [toD_cells]) ?_
    by_cases c : cmpT a[A].v b[B].v = 0
    · have e0 : offP a b p = 0 := by unfold offP; rw [evA, evB, if_pos ((cmpT_zero _ _).1 c)]
      rw [e0, Rat.add_zero] at hst
      simp [c, ← hst]
      rw [wrap64 (by omega) (by omega)]
      refine ⟨i + 1, h1, by dsimp only; omega, ?_⟩
      refine weak_obs ?_ (by simp) (by repeat (first | exact sin_empty | refine sin_set (by simp) ?_)) (by simp; exact fun y hy => rawc_within _ y hy)
      repeat (first | exact sub_empty | refine sub_set (by simp) ?_)
    · have e0 : offP a b p = p.w.q := by unfold offP; rw [evA, evB, if_neg fun h => c ((cmpT_zero _ _).2 h)]
      rw [e0] at hst
      simp [c, h1, hp]
      refine callFK_of (ref02_Add hacc (how.mono (by omega))) (by simp [toD_rawc, raw_v]) ?_
      simp [ratV, raw_v, rawOf_q, ← hst, setOb, List.filter_cons]
      rw [wrap64 (by omega) (by omega)]
      refine ⟨i + 1, h1, by dsimp only; omega, ?_⟩
      refine weak_obs ?_ (by simp) (by repeat (first | exact sin_empty | refine sin_set (by simp) ?_)) (by simp; exact fun y hy => rawc_within _ y hy)
      repeat (first | exact sub_empty | refine sub_set (by simp) ?_)
  · have hil : i = ps.length := by omega
    subst hil
    simp [h1, setOb, List.filter_cons, toD_rawc, ratV, raw_v]
theorem val_fitsK {l : List Pq} (hl : l.length ≤ 20) (hf : ∀ p ∈ l, Fits p.q 4194304) (A B : Int) : Fits (valA l A B) 83886101 := by
  refine (sumBy_fits (k := 4194304) _ fun p hp => ?_).mono ?_
  · split
    · exact hf p hp
    · exact fits_zero.mono (by omega)
  · have : l.length * (4194304 + 1) ≤ 20 * 4194305 := Nat.mul_le_mul_right _ hl
    omega
theorem gpr (G : List Pq) : G.map Pq.c = (G.map Pq.pr).map prC := by rw [List.map_map]; rfl
theorem gpq (G : List Pq) : (G.map Pq.pr).map Pr.pq = G := by
  rw [List.map_map]
  conv => rhs; rw [← List.map_id G]
  exact List.map_congr_left fun p _ => pr_pq p
theorem cmpR_ge {a b : Rat} : 0 ≤ cmpR a b ↔ b ≤ a := by
  unfold cmpR
  split
  · rename_i h
    exact ⟨fun h' => by omega, fun h' => by grind⟩
  · rename_i h
    exact ⟨fun _ => Rat.not_lt.1 h, fun _ => by split <;> omega⟩
theorem coupleLeast_law {l0 l1 l2 : List (List V)} (h0 : ∃ n, Typed Tryz.prog n 22 [.dat l0]) (h1 : ∃ n, Typed Tryz.prog n 22 [.dat l1]) (h2 : ∃ n, Typed Tryz.prog n 23 [.dat l2]) : CallD Tryz.prog 5 [.dat l0, .dat l1, .dat l2] (· = .bool true) := by
  obtain ⟨a, rfl, la, ha⟩ := read_parts h0
  obtain ⟨b, rfl, lb, hb⟩ := read_parts h1
  obtain ⟨ps, rfl, lp, hp⟩ := read_pairs h2
  refine callD_by F.law35_CoupleLeast_ok ?_
  unfold F.law35_CoupleLeast_c
  simp
  refine callK_of (law35_Few la ha) (by simp) ?_
  cases fa : fewP a with
  | false => simp
  | true =>
  simp
  refine callK_of (law35_Few lb hb) (by simp) ?_
  cases fb : fewP b with
  | false => simp
  | true =>
  simp
  refine callK_of (law35_fewPairs lp (fun p h => (hp p h).1)) (by simp) ?_
  cases fp : fewQ ps with
  | false => simp
  | true =>
  obtain ⟨na, oa3⟩ := fewP_ok fa ha
  obtain ⟨nb, ob3⟩ := fewP_ok fb hb
  obtain ⟨np, op3⟩ := fewQ_ok fp (fun p h => (hp p h).1)
  have oa : ∀ p ∈ a, p.Ok 1000000 := fun p h => (oa3 p h).mono (by omega)
  have ob : ∀ p ∈ b, p.Ok 1000000 := fun p h => (ob3 p h).mono (by omega)
  have op : ∀ p ∈ ps, p.w.Ok 1000000 := fun p h => (op3 p h).mono (by omega)
  simp
  refine callK_of (ref35_Right (by omega) oa) (by simp) ?_
  cases hra : rightP a with
  | false => simp
  | true =>
  simp
  refine callK_of (ref35_Right (by omega) ob) (by simp) ?_
  cases hrb : rightP b with
  | false => simp
  | true =>
  have ga := good_of hra oa
  have gb := good_of hrb ob
  simp
  refine callK_of (couple_Apart (by omega) (by omega) oa ob) (by simp) ?_
  rw [apartV_good hra hrb]
  simp [setOb, List.filter_cons, ratV, raw_v]
  refine callK_rel (couple_Best na nb oa3 ob3) (by simp) ?_
  intro r hr
  rw [bestR_good hra hrb] at hr
  obtain ⟨G, rfl, g1, g2, g3, g4⟩ := hr
  obtain ⟨bc, bd⟩ := best_cpl ga gb na nb (fun p h => (oa3 p h).w) (fun p h => (ob3 p h).w)
  have ci := comm_inv ga gb na nb (fun p h => (oa3 p h).w) (fun p h => (ob3 p h).w) a.length (Nat.le_refl _)
  obtain ⟨f1, f2⟩ := gr_few _ (Nat.le_refl _) ci.rest (i := 0) (k := 0)
  have bl : (bestAll a b).length ≤ 20 := by unfold bestAll; rw [List.length_append]; exact f1
  have bf : ∀ p ∈ bestAll a b, Fits p.q 4194304 := fun p hp => by
    unfold bestAll at hp
    rcases List.mem_append.1 hp with hp | hp
    · exact (ci.pos p hp).2
    · exact (f2 p hp).2
  have gf : ∀ p ∈ G, Fits p.q 83886101 := fun p hp => by rw [← up_at g1 hp, g2]; exact val_fitsK bl bf _ _
  have gc := cpl_val bc g1 g3 g2
  have cg := of_cpl hra hrb g1 gc fun p hp => (gf p hp).mono (by omega)
  have og := off_best ga gb gc fun j k hj h => by rw [g2]; exact bd j k hj h
  have gl : (G.map Pq.pr).length ≤ 20 := by simpa using g4
  have gk : (G.map Pq.pr).length * (83886101 + 1) + 1000002 ≤ 2 ^ 31 := by
    generalize (G.map Pq.pr).length = n at *
    omega
  have pk : ps.length * (3 + 1) + 1000002 ≤ 2 ^ 31 := by omega
  have go : ∀ p ∈ G.map Pq.pr, p.w.Ok 83886101 := fun p hp => by
    obtain ⟨q, hq, rfl⟩ := List.mem_map.1 hp
    exact rawOf_ok (gf q hq)
  have gi : ∀ p ∈ G.map Pq.pr, (0 ≤ p.A ∧ p.A < a.length) ∧ (0 ≤ p.B ∧ p.B < b.length) := fun p hp => by
    obtain ⟨q, hq, rfl⟩ := List.mem_map.1 hp
    exact gc.inn q hq
  have fap : (rawOf (apartQ a b)).Ok (2 ^ 31) := by
    have := apart_fits ga gb (n := a.length)
    rw [List.take_length] at this
    exact rawOf_ok (Fits.mono this (by omega))
  have toD_pr : ∀ (σ : Sto) (ps : List Pr), toD σ 12 (prl ps) = some (prl ps) := fun σ ps => by simp
  rw [gpr]
  simp
  refine callFK_of (couple_Couples (by omega) (by omega) gk (by omega) (by omega) (by omega) oa ob go) (by simp [gpr]) ?_
  rw [cg]
  simp
  refine callFK_of (law35_off oa ob (by omega) (by omega) (by omega) gk go gi) (by simp [gpr]) ?_
  rw [gpq, og]
  simp [ratV, raw_v]
  refine callFK_of (ref02_Same fap fap) (by simp [toD_rawc, raw_v]) ?_
  simp
  refine callFK_of (couple_Couples (by omega) (by omega) pk (by omega) (by omega) (by omega) oa ob op3) (by simp) ?_
  cases cp : couplesP a b ps with
  | false =>
    simp
    refine callFK_of law35_alive (by simp) ?_
    simp
  | true =>
    have pc := cpl_of cp
    have pi : ∀ p ∈ ps, (0 ≤ p.A ∧ p.A < a.length) ∧ (0 ≤ p.B ∧ p.B < b.length) := fun p hp => pc.inn _ (List.mem_map.2 ⟨p, hp, rfl⟩)
    have og2 := off_ge ga gb pc
    have fo : (rawOf (offQ a b (ps.map Pr.pq))).Ok (2 ^ 31) := by
      rw [offQ_by]
      refine rawOf_ok ((sumBy_fits (k := 3) _ fun p hp => offP_fits (op3 p hp) (by omega)).mono (by omega))
    simp
    refine callFK_of (law35_off oa ob (by omega) (by omega) (by omega) pk op3 pi) (by simp) ?_
    simp [ratV, raw_v]
    refine callFK_of (ref02_Compare fo fap) (by simp [toD_rawc, raw_v]) ?_
    rw [rawOf_q, rawOf_q]
    simp [cmpR_ge.2 og2]
    refine callFK_of law35_alive (by simp) ?_
    simp
end Go.Proofs.YtnneehniendnfaaGreat
