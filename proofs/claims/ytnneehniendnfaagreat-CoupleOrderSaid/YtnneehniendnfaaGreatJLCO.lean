/- CoupleOrder, over data. -/
import Derived.Test.YtnneehniendnfaaGreatJLCW
/- Functions of the program, as the engine reads them; each is held against the translation. -/
namespace Go.Proofs.YtnneehniendnfaaGreat.F
open Go Go.Proofs Go.Proofs.YtnneehniendnfaaGreat.E Go.Proofs.YtnneehniendnfaaGreat.Q
abbrev law35_CoupleOrder : Nat := 9
def law35_CoupleOrder_c : MFn :=
  ⟨138,(.seq (r [o 4 (.mv (.c (.bool false)))] [0,1]) (.seq (.seq (r [o 13 (.mv (.t 0)),o 14 (.call 12 [(.t 13)]),o 15 (.un .not (.t 14)),o 16 (.mv (.t 15)),n 17 16 (.mv (.t 1)),
  n 18 16 (.call 12 [(.t 17)]),n 19 16 (.un .not (.t 18)),o 20 (.pick (.t 16) (.c (.bool true)) (.t 19)),o 21 (.mv (.t 20)),n 22 21 (.mv (.t 0)),n 23 21 (.call 15 [(.t 22)]),
  n 24 21 (.un .not (.t 23)),o 25 (.pick (.t 21) (.c (.bool true)) (.t 24)),o 26 (.mv (.t 25)),n 27 26 (.mv (.t 1)),n 28 26 (.call 15 [(.t 27)]),n 29 26 (.un .not (.t 28)),o 30 (.pick (.t 26)
  (.c (.bool true)) (.t 29))] [0,1,30]) (.cond (.t 30) (.seq (r [o 4 (.mv (.c (.bool true)))] [4]) .ret) .skip)) (.seq (r [o 31 (.mv (.t 0)),o 32 (.mv (.t 1)),o 33 (.call 28 [(.t 31),(.t 32)]),
  o 5 (.mv (.t 33))] [0,1,5]) (.seq (.seq (r [o 34 (.mv (.t 5)),o 35 (.lenS (.t 34)),o 36 (.mv (i 0))] [0,1,5,35,36]) (.block 0 (.loop (.seq (r [o 37 (.bin .lss (.t 36) (.t 35))] [0,1,5,35,36,37])
  (.seq (.cond (.t 37) .skip (.exit 0)) (.seq (.block 1 (.seq (r [o 38 (.mv (.t 36)),o 6 (.mv (.t 38))] [0,1,5,6,35,36]) (.seq (r [o 39 (.mv (.t 5)),o 40 (.mv (.t 6)),o 41 (.ixA 3 (.t 39) (.t 40)),
  o 42 (.fA 0 (.t 41)),o 43 (.ld none (.t 42)),o 44 (.bin .neq (.t 43) (i 2))] [0,1,5,35,36,44]) (.cond (.t 44) (.seq (r [o 4 (.mv (.c (.bool true)))] [4]) .ret) .skip)))) (r [o 45 (.bin .add (.t 36)
  (i 1)),o 36 (.mv (.t 45))] [0,1,5,35,36]))))))) (.seq (r [o 7 (.mv (.c (.bool true)))] [0,1,5,7]) (.seq (.seq (r [o 46 (.mv (.t 5)),o 47 (.lenS (.t 46)),o 48 (.mv (i 0))] [0,1,5,7,47,48])
  (.block 2 (.loop (.seq (r [o 49 (.bin .lss (.t 48) (.t 47))] [0,1,5,7,47,48,49]) (.seq (.cond (.t 49) .skip (.exit 2)) (.seq (.block 3 (.seq (r [o 50 (.mv (.t 48)),o 8 (.mv (.t 50))] [0,1,5,7,8,47,
  48]) (r [o 51 (.mv (.t 7)),o 52 (.mv (.t 51)),y 53 52 (.mv (.t 0)),y 54 52 (.mv (.t 5)),y 55 52 (.mv (.t 8)),y 56 52 (.ixA 3 (.t 54) (.t 55)),y 57 52 (.fA 1 (.t 56)),y 58 52 (.ld none (.t 57)),
  y 59 52 (.callF 37 [(.t 53),(.t 58)]),y 60 52 (.mv (.t 1)),y 61 52 (.mv (.t 5)),y 62 52 (.mv (.t 8)),y 63 52 (.ixA 3 (.t 61) (.t 62)),y 64 52 (.fA 1 (.t 63)),y 65 52 (.ld none (.t 64)),
  y 66 52 (.callF 37 [(.t 60),(.t 65)]),y 67 52 (.callF 27 [(.t 59),(.t 66)]),y 68 52 (.bin .geq (.t 67) (i 0)),o 69 (.pick (.t 52) (.t 68) (.c (.bool false))),o 7 (.mv (.t 69))] [0,1,5,7,47,48])))
  (r [o 70 (.bin .add (.t 48) (i 1)),o 48 (.mv (.t 70))] [0,1,5,7,47,48]))))))) (.seq (r [o 72 (.mv (.t 0)),o 73 (.mv (.t 1)),o 74 (.call 35 [(.t 72),(.t 73)]),o 71 (.mv (.t 74)),o 75 (.ext (.t 71)
  0),o 76 (.ext (.t 71) 1),o 77 (.ext (.t 71) 2),o 9 (.mv (.t 75)),o 10 (.mv (.t 76)),o 11 (.mv (.t 77))] [0,1,7,9,10,11]) (.seq (.seq (r [o 78 (.mv (.t 11)),o 79 (.bin .neq (.t 78) (i 0)),
  o 80 (.mv (.t 79)),n 81 80 (.mv (.t 7)),n 82 80 (.mv (.t 10)),n 83 80 (.bin .eql (.t 82) (i (-1))),n 84 80 (.binB .neq (.t 81) (.t 83)),o 85 (.pick (.t 80) (.c (.bool true)) (.t 84))] [0,1,7,9,10,
  85]) (.cond (.t 85) (.seq (r [o 4 (.mv (.c (.bool false)))] [4]) .ret) .skip)) (.seq (.seq (r [o 86 (.mv (.t 7)),o 87 (.un .not (.t 86))] [0,1,9,10,87]) (.cond (.t 87) (.seq (r [o 88 (.mv (.t 9)),
  o 89 (.lenS (.t 88)),o 90 (.bin .eql (.t 89) (i 0)),o 91 (.mv (.t 90)),y 92 91 (.mv (.t 10)),y 93 91 (.bin .geq (.t 92) (i 0)),o 94 (.pick (.t 91) (.t 93) (.c (.bool false))),o 95 (.mv (.t 94)),
  y 96 95 (.mv (.t 10)),y 97 95 (.mv (.t 1)),y 98 95 (.lenS (.t 97)),y 99 95 (.bin .lss (.t 96) (.t 98)),o 100 (.pick (.t 95) (.t 99) (.c (.bool false))),o 101 (.mv (.t 100)),y 102 101 (.call 19 []),
  o 103 (.pick (.t 101) (.t 102) (.c (.bool false))),o 4 (.mv (.t 103))] [4]) .ret) .skip)) (.seq (.seq (r [o 104 (.mv (.t 9)),o 105 (.lenS (.t 104)),o 106 (.mv (i 0))] [0,1,9,105,106])
  (.block 4 (.loop (.seq (r [o 107 (.bin .lss (.t 106) (.t 105))] [0,1,9,105,106,107]) (.seq (.cond (.t 107) .skip (.exit 4)) (.seq (.block 5 (.seq (r [o 108 (.mv (.t 106)),o 12 (.mv (.t 108))] [0,1,
  9,12,105,106]) (.seq (r [o 109 (.mv (.t 0)),o 110 (.mv (.t 9)),o 111 (.mv (.t 12)),o 112 (.ixA 5 (.t 110) (.t 111)),o 113 (.fA 0 (.t 112)),o 114 (.ld none (.t 113)),o 115 (.ixA 6 (.t 109) (.t 114)),
  o 116 (.fA 0 (.t 115)),o 117 (.fA 1 (.t 116)),o 118 (.ld none (.t 117)),o 119 (.mv (.t 1)),o 120 (.mv (.t 9)),o 121 (.mv (.t 12)),o 122 (.ixA 5 (.t 120) (.t 121)),o 123 (.fA 1 (.t 122)),
  o 124 (.ld none (.t 123)),o 125 (.ixA 6 (.t 119) (.t 124)),o 126 (.fA 0 (.t 125)),o 127 (.fA 1 (.t 126)),o 128 (.ld none (.t 127)),o 129 (.bin .gtr (.t 118) (.t 128))] [0,1,9,105,106,129])
  (.cond (.t 129) (.seq (r [o 4 (.mv (.c (.bool false)))] [4]) .ret) .skip)))) (r [o 130 (.bin .add (.t 106) (i 1)),o 106 (.mv (.t 130))] [0,1,9,105,106]))))))) (.seq (r [o 131 (.mv (.t 0)),
  o 132 (.mv (.t 1)),o 133 (.mv (.t 9)),o 134 (.call 16 [(.t 131),(.t 132),(.t 133)]),o 135 (.mv (.t 134)),y 136 135 (.call 19 []),o 137 (.pick (.t 135) (.t 136) (.c (.bool false))),
  o 4 (.mv (.t 137))] [4]) .ret))))))))))),[.t 4]⟩
theorem law35_CoupleOrder_ok : cFn Tryz.prog (kps [[0,1],[0,1,30],[4],[0,1,5],[0,1,5,35,36],[0,1,5,35,36,37],[0,1,5,6,35,36],[0,1,5,35,36,44],[4],[0,1,5,35,36],[0,1,5,7],[0,1,5,7,47,48],[0,1,5,7,47,48,49],[0,1,5,7,8,47,48],[0,1,5,7,47,48],[0,1,5,7,47,48],[0,1,7,9,10,11],[0,1,7,9,10,85],[4],[0,1,9,10,87],[4],[0,1,9,105,106],[0,1,9,105,106,107],[0,1,9,12,105,106],[0,1,9,105,106,129],[4],[0,1,9,105,106],[4]]) [] 9 = some law35_CoupleOrder_c := by kernel_rfl
end Go.Proofs.YtnneehniendnfaaGreat.F

namespace Go.Proofs.YtnneehniendnfaaGreat
open Go Go.Proofs Go.Proofs.YtnneehniendnfaaGreat.E
set_option linter.unusedSimpArgs false
set_option linter.unusedVariables false
theorem mem_vals {a b : List Part} {q : Part} (hq : q ∈ b) : q.v ∈ valsT a b := by
  by_cases e : wtQ a q.v = 0
  · exact List.mem_append.2 (.inr (List.mem_map.2 ⟨q, List.mem_filter.2 ⟨hq, by simpa using e⟩, rfl⟩))
  · by_cases ex : ∃ p ∈ a, p.v = q.v
    · obtain ⟨p, hp, e2⟩ := ex
      rw [← e2]; exact List.mem_append.2 (.inl (List.mem_map.2 ⟨p, hp, rfl⟩))
    · exact (e (wtQ_none fun p hp e2 => ex ⟨p, hp, e2⟩)).elim
theorem cmpR_nn {a b : Rat} : 0 ≤ cmpR a b ↔ b ≤ a := by
  unfold cmpR
  split
  · rename_i h
    exact ⟨fun h' => by omega, fun h' => by grind⟩
  · rename_i h
    exact ⟨fun _ => Rat.not_lt.1 h, fun _ => by split <;> omega⟩
theorem cells_e1 (t : Tr) (h : 1 < t.cells.length) : t.cells[1]'h = .int .i64 t.n := by
  have := cells_1 t; rw [List.getElem?_eq_getElem h] at this; simpa using this
def okV (a b : List Part) (v : Tr) : Bool := decide (upQ b v.n ≤ upQ a v.n)
theorem want_iff {a b : List Part} (ga : Good a) (gb : Good b) (ib : Ints b) : (valsT a b).all (okV a b) = true ↔ ∀ k, k < b.length → ¬ failB a b k := by
  rw [List.all_eq_true]
  constructor
  · rintro h k hk ⟨_, hf⟩
    have := h _ (mem_vals (a := a) (List.getElem_mem hk))
    simp only [okV, decide_eq_true_eq] at this
    grind
  · intro h v _
    simp only [okV, decide_eq_true_eq]
    refine below_all ga.pos ib (fun k hk => ?_) v.n
    exact Rat.not_lt.1 fun hf => h k hk ⟨hk, hf⟩
theorem gr_cpl {a b : List Part} (ga : Good a) (gb : Good b) (hf : ∀ p ∈ gr (a.map (·.w.q)) (b.map (·.w.q)) 0 0, 0 < p.q) : Cpl a b (gr (a.map (·.w.q)) (b.map (·.w.q)) 0 0) := by
  have nn : ∀ {l : List Part}, Good l → ∀ v ∈ l.map (·.w.q), 0 ≤ v := fun g v hv => by
    obtain ⟨p, hp, rfl⟩ := List.mem_map.1 hv; have := g.pos p hp; grind
  have hs : sumBy id (a.map (·.w.q)) = sumBy id (b.map (·.w.q)) := by
    rw [sumBy_map, sumBy_map]
    have h1 := ga.one
    have h2 := gb.one
    rw [sumQ_by] at h1 h2
    exact h1.trans h2.symm
  obtain ⟨g1, g2, g3⟩ := gr_sums _ (Nat.le_refl _) (nn ga) (nn gb) (i := 0) (k := 0) (by omega) (by omega) hs
  exact ⟨fun p hp => by have := g3 p hp; simpa using this, hf, fun i hi => by rw [g1, at0_wq], fun i hi => by rw [g2, at0_wq]⟩
theorem gr_order {a b : List Part} (ga : Good a) (gb : Good b) (ia : Ints a) (ib : Ints b) (hno : ∀ k, k < b.length → ¬ failB a b k) :
    ∀ p ∈ gr (a.map (·.w.q)) (b.map (·.w.q)) 0 0, ∃ i k : Nat, ∃ (hi : i < a.length) (hk : k < b.length), p.A = i ∧ p.B = k ∧ a[i].v.n ≤ b[k].v.n := by
  have nn : ∀ {l : List Part}, Good l → ∀ v ∈ l.map (·.w.q), 0 ≤ v := fun g v hv => by
    obtain ⟨p, hp, rfl⟩ := List.mem_map.1 hv; have := g.pos p hp; grind
  have hs : sumBy id (a.map (·.w.q)) = sumBy id (b.map (·.w.q)) := by
    rw [sumBy_map, sumBy_map]
    have h1 := ga.one
    have h2 := gb.one
    rw [sumQ_by] at h1 h2
    exact h1.trans h2.symm
  intro p hp
  obtain ⟨i, k, e1, e2, hi, hk, hlt⟩ := gr_low hs _ (Nat.le_refl _) rfl rfl (nn ga) (nn gb) (fun j => by grind) (i := 0) (k := 0) (fun j hj => by omega) (fun j hj => rfl) hs p hp
  have hi : i < a.length := by simpa using hi
  have hk : k < b.length := by simpa using hk
  refine ⟨i, k, hi, hk, e1, e2, Int.not_lt.1 fun h => ?_⟩
  have u1 := up_le ga.pos ia hi h
  have u2 := up_at_self ib hk
  exact hno k hk ⟨hk, by rw [u2]; grind⟩
set_option maxHeartbeats 4000000 in
theorem coupleOrder_law {l0 l1 : List (List V)} (h0 : ∃ n, Typed Tryz.prog n 22 [.dat l0]) (h1 : ∃ n, Typed Tryz.prog n 22 [.dat l1]) : CallD Tryz.prog F.law35_CoupleOrder [.dat l0, .dat l1] (· = .bool true) := by
  obtain ⟨a, rfl, la, ha⟩ := read_parts h0
  obtain ⟨b, rfl, lb, hb⟩ := read_parts h1
  refine callD_by F.law35_CoupleOrder_ok ?_
  unfold F.law35_CoupleOrder_c
  simp
  refine callK_of (law35_Few la ha) (by simp) ?_
  cases fa : fewP a with
  | false => simp
  | true =>
  simp
  refine callK_of (law35_Few lb hb) (by simp) ?_
  cases fb : fewP b with
  | false => simp
  | true =>
  obtain ⟨na, oa3⟩ := fewP_ok fa ha
  obtain ⟨nb, ob3⟩ := fewP_ok fb hb
  have oa : ∀ p ∈ a, p.Ok 1000000 := fun p h => (oa3 p h).mono (by omega)
  have ob : ∀ p ∈ b, p.Ok 1000000 := fun p h => (ob3 p h).mono (by omega)
  simp
  refine callK_of (ref35_Right (by omega) oa) (by simp) ?_
  cases hra : rightP a with
  | false => simp
  | true =>
  simp
  refine callK_of (ref35_Right (by omega) ob) (by simp) ?_
  cases hrb : rightP b with
  | false => simp
  | true =>
  have ga := good_of hra oa
  have gb := good_of hrb ob
  have lv := vals_len a b
  simp
  refine callK_of (ref35_Values (by omega) (by omega) ga ob) (by simp) ?_
  simp
  refine wm_loop (fun g : Nat => ((((((Sl.empty.set 36 (.int .i64 g)).set 35 (.int .i64 (valsT a b).length)).set 5 (tl (valsT a b))).set 1 (pl b)).set 0 (pl a)), [])) (fun g => g ≤ (valsT a b).length ∧ ∀ j (hj : j < (valsT a b).length), j < g → (valsT a b)[j].k = 2) (fun g => (valsT a b).length - g) 0 ⟨by omega, by omega⟩ ?_ ?_
  · exact weak_p (by repeat (first | exact sub_empty | refine sub_set (by simp) ?_)) (by repeat (first | exact sin_empty | refine sin_set (by simp) ?_))
  rintro i ⟨hi, hkind⟩
  by_cases h1 : i < (valsT a b).length
  · have c0 := cells_0 (valsT a b)[i]
    simp [h1, setOb, List.filter_cons, c0, cells_e0]
    generalize hv : (valsT a b)[i] = v at *
    by_cases hk : v.k = 2
    · simp [hk]
      rw [wrap64 (by omega) (by omega)]
      refine ⟨i + 1, ⟨h1, fun j hj hji => ?_⟩, by dsimp only; omega, ?_⟩
      · by_cases e : j = i
        · subst e; rw [hv]; exact hk
        · exact hkind j hj (by omega)
      · exact weak_p (by repeat (first | exact sub_empty | refine sub_set (by simp) ?_)) (by repeat (first | exact sin_empty | refine sin_set (by simp) ?_))
    · simp [hk]
  have hint : (intP a && intP b) = true := (vals_kind ga gb).1 fun v hv => by
    obtain ⟨j, hj, rfl⟩ := List.getElem_of_mem hv
    exact hkind j hj (by omega)
  have hi2 := hint
  simp only [Bool.and_eq_true] at hi2
  have ia := ints_of hra (intP_of hi2.1)
  have ib := ints_of hrb (intP_of hi2.2)
  simp [h1]
  clear h1 hkind hi
  have upf : ∀ (l : List Part) (t : Int), (∀ p ∈ l, p.Ok 1000000) → l.length ≤ 60 → (rawOf (upQ l t)).Ok (2 ^ 31) := fun l t ho hl => rawOf_ok (up_fits ho t _ (fun p hp => hp) hl)
  refine wm_loop (fun g : Nat × Bool => (((((((Sl.empty.set 48 (.int .i64 g.1)).set 47 (.int .i64 (valsT a b).length)).set 7 (.bool g.2)).set 5 (tl (valsT a b))).set 1 (pl b)).set 0 (pl a)), [])) (fun g => g.1 ≤ (valsT a b).length ∧ g.2 = ((valsT a b).take g.1).all (okV a b)) (fun g => (valsT a b).length - g.1) (0, true) ⟨by simp, by simp⟩ ?_ ?_
  · exact weak_p (by repeat (first | exact sub_empty | refine sub_set (by simp) ?_)) (by repeat (first | exact sin_empty | refine sin_set (by simp) ?_))
  rintro ⟨i, w⟩ ⟨hi, hw⟩
  dsimp only at hi hw
  by_cases h1 : i < (valsT a b).length
  · have hst : ((valsT a b).take (i + 1)).all (okV a b) = (w && okV a b (valsT a b)[i]) := by
      rw [List.take_succ_eq_append_getElem h1, List.all_append, List.all_cons, List.all_nil, Bool.and_true, hw]
    have c1 := cells_1 (valsT a b)[i]
    have c1e := cells_e1 (valsT a b)[i]
    generalize hv : (valsT a b)[i] = v at *
    cases w with
    | false =>
      simp [h1]
      rw [wrap64 (by omega) (by omega)]
      refine ⟨(i + 1, false), ⟨h1, by rw [hst]; rfl⟩, by dsimp only; omega, ?_⟩
      exact weak_p (by repeat (first | exact sub_empty | refine sub_set (by simp) ?_)) (by repeat (first | exact sin_empty | refine sin_set (by simp) ?_))
    | true =>
      simp [h1, hv, c1, c1e]
      refine callFK_of (law35_upTo (t := v.n) (by omega) oa) (by simp) ?_
      simp [ratV, raw_v, hv, c1, c1e, h1]
      refine callFK_of (law35_upTo (t := v.n) (by omega) ob) (by simp) ?_
      simp [ratV, raw_v]
      refine callFK_of (ref02_Compare (upf a v.n oa (by omega)) (upf b v.n ob (by omega))) (by simp [toD_rawc, raw_v]) ?_
      rw [rawOf_q, rawOf_q]
      simp
      rw [wrap64 (by omega) (by omega)]
      refine ⟨(i + 1, decide (0 ≤ cmpR (upQ a v.n) (upQ b v.n))), ⟨h1, ?_⟩, by dsimp only; omega, ?_⟩
      · rw [hst]; unfold okV; rw [Bool.true_and]; exact decide_eq_decide.2 cmpR_nn
      · exact weak_p (by repeat (first | exact sub_empty | refine sub_set (by simp) ?_)) (by repeat (first | exact sin_empty | refine sin_set (by simp) ?_))
  have hil : i = (valsT a b).length := by omega
  subst hil
  rw [List.take_length] at hw
  simp [h1]
  refine callK_rel (couple_Below na nb oa3 ob3) (by simp) ?_
  intro r hr
  rw [belowR_int hra hrb hint] at hr
  have hwi := want_iff ga gb ib
  rw [← hw] at hwi
  rcases hr with ⟨k, k1, k2, k3, rfl⟩ | ⟨hno, rfl⟩
  · have : w = false := by cases w; rfl; exact (hwi.1 rfl k k1 k2).elim
    subst this
    have e1 : ¬ (k : Int) = -1 := by omega
    have e2 : (0 : Int) ≤ k := by omega
    have e3 : (k : Int) < b.length := by omega
    simp [e1, e2, e3, k1]
    refine callK_of law35_alive (by simp) ?_
    simp
  · have : w = true := hwi.2 hno
    subst this
    obtain ⟨f1, f2⟩ := gr_facts ga gb na nb (fun p h => (oa3 p h).w) (fun p h => (ob3 p h).w)
    have gc := gr_cpl ga gb fun p hp => (f2 p hp).1
    have go := gr_order ga gb ia ib hno
    have gu := (gr_up _ (Nat.le_refl _) (x := a.map (·.w.q)) (y := b.map (·.w.q)) (i := 0) (k := 0)).1
    have cg := of_cpl hra hrb gu gc fun p hp => (f2 p hp).2.mono (by omega)
    generalize gr (a.map (·.w.q)) (b.map (·.w.q)) 0 0 = G at *
    simp
    refine wm_loop (fun g : Nat => (((((Sl.empty.set 106 (.int .i64 g)).set 105 (.int .i64 G.length)).set 9 (.dat (G.map Pq.c))).set 1 (pl b)).set 0 (pl a), [])) (fun g => g ≤ G.length) (fun g => G.length - g) 0 (by omega) ?_ ?_
    · exact weak_p (by repeat (first | exact sub_empty | refine sub_set (by simp) ?_)) (by repeat (first | exact sin_empty | refine sin_set (by simp) ?_))
    intro j hj
    by_cases h2 : j < G.length
    · obtain ⟨x, y, hx, hy, ex, ey, hle⟩ := go _ (List.getElem_mem h2)
      have hle' : ¬ b[y].v.n < a[x].v.n := by omega
      have ex' : G[j].pr.A = (x : Int) := ex
      have ey' : G[j].pr.B = (y : Int) := ey
      simp [h2, c_get0, c_get1, ex, ey, ex', ey', hx, hy, partC_e1, partC_1, hle']
      rw [wrap64 (by omega) (by omega)]
      refine ⟨j + 1, h2, by dsimp only; omega, ?_⟩
      exact weak_p (by repeat (first | exact sub_empty | refine sub_set (by simp) ?_)) (by repeat (first | exact sin_empty | refine sin_set (by simp) ?_))
    · have gk : (G.map Pq.pr).length * (4194304 + 1) + 1000002 ≤ 2 ^ 31 := by
        have : (G.map Pq.pr).length = G.length := by simp
        rw [this]; omega
      have gw : ∀ p ∈ G.map Pq.pr, p.w.Ok 4194304 := fun p hp => by
        obtain ⟨q, hq, rfl⟩ := List.mem_map.1 hp
        exact rawOf_ok (f2 q hq).2
      have gpr : G.map Pq.c = (G.map Pq.pr).map prC := by rw [List.map_map]; rfl
      simp [h2]
      refine callK_of (couple_Couples (ps := G.map Pq.pr) (by omega) (by omega) gk (by omega) (by omega) (by simp; omega) oa ob gw) (by simp [gpr]) ?_
      rw [cg]
      simp
      refine callK_of law35_alive (by simp) ?_
      simp
end Go.Proofs.YtnneehniendnfaaGreat
