/- CoupleSets, over data. -/
import Derived.Test.YtnneehniendnfaaGreatJLCR
import Derived.Test.YtnneehniendnfaaGreatGS
/- Functions of the program, as the engine reads them; each is held against the translation. -/
namespace Go.Proofs.YtnneehniendnfaaGreat.F
open Go Go.Proofs Go.Proofs.YtnneehniendnfaaGreat.E
abbrev law35_CoupleSets : Nat := 6
def law35_CoupleSets_c : MFn :=
  ⟨97, (.seq (.region [⟨(some 4), .mv (.c (.bool false)), none⟩] (some [0, 1]))
  (.seq (.seq (.region [⟨(some 12), .mv (.t 0), none⟩,
    ⟨(some 13), .call 12 [(.t 12)], none⟩,
    ⟨(some 14), .un .not (.t 13), none⟩,
    ⟨(some 15), .mv (.t 14), none⟩,
    ⟨(some 16), .mv (.t 1), (some (15, false))⟩,
    ⟨(some 17), .call 12 [(.t 16)], (some (15, false))⟩,
    ⟨(some 18), .un .not (.t 17), (some (15, false))⟩,
    ⟨(some 19), .pick (.t 15) (.c (.bool true)) (.t 18), none⟩,
    ⟨(some 20), .mv (.t 19), none⟩,
    ⟨(some 21), .mv (.t 0), (some (20, false))⟩,
    ⟨(some 22), .lenS (.t 21), (some (20, false))⟩,
    ⟨(some 23), .mv (.t 1), (some (20, false))⟩,
    ⟨(some 24), .lenS (.t 23), (some (20, false))⟩,
    ⟨(some 25), .bin .add (.t 22) (.t 24), (some (20, false))⟩,
    ⟨(some 26), .bin .gtr (.t 25) (.c (.int .i64 10)), (some (20, false))⟩,
    ⟨(some 27), .pick (.t 20) (.c (.bool true)) (.t 26), none⟩,
    ⟨(some 28), .mv (.t 27), none⟩,
    ⟨(some 29), .mv (.t 0), (some (28, false))⟩,
    ⟨(some 30), .call 15 [(.t 29)], (some (28, false))⟩,
    ⟨(some 31), .un .not (.t 30), (some (28, false))⟩,
    ⟨(some 32), .pick (.t 28) (.c (.bool true)) (.t 31), none⟩,
    ⟨(some 33), .mv (.t 32), none⟩,
    ⟨(some 34), .mv (.t 1), (some (33, false))⟩,
    ⟨(some 35), .call 15 [(.t 34)], (some (33, false))⟩,
    ⟨(some 36), .un .not (.t 35), (some (33, false))⟩,
    ⟨(some 37), .pick (.t 33) (.c (.bool true)) (.t 36), none⟩] (some [0, 1, 37]))
  (.cond (.t 37)
    (.seq (.region [⟨(some 4), .mv (.c (.bool true)), none⟩] (some [4]))
    .ret)
    .skip))
  (.seq (.region [⟨(some 39), .mv (.t 0), none⟩,
    ⟨(some 40), .mv (.t 1), none⟩,
    ⟨(some 41), .call 20 [(.t 39), (.t 40)], none⟩,
    ⟨(some 38), .mv (.t 41), none⟩,
    ⟨(some 42), .ext (.t 38) 0, none⟩,
    ⟨(some 43), .ext (.t 38) 1, none⟩,
    ⟨(some 5), .alloc [.bool false, .nils, .nils], none⟩,
    ⟨none, .st 3 (.t 5) (.t 42), none⟩,
    ⟨(some 6), .mv (.t 43), none⟩] (some [0, 1, 5, 6]))
  (.seq (.seq (.region [⟨(some 44), .mv (.t 6), none⟩,
    ⟨(some 45), .bin .neq (.t 44) (.c (.int .i64 0)), none⟩] (some [0, 1, 5, 45]))
  (.cond (.t 45)
    (.seq (.region [⟨(some 4), .mv (.c (.bool false)), none⟩] (some [4]))
    .ret)
    .skip))
  (.seq (.region [⟨(some 46), .mv (.t 0), none⟩,
    ⟨(some 47), .mv (.t 1), none⟩,
    ⟨(some 48), .call 28 [(.t 46), (.t 47)], none⟩,
    ⟨(some 7), .mv (.t 48), none⟩] (some [0, 1, 5, 7]))
  (.seq (.region [⟨(some 49), .call 29 [], none⟩,
    ⟨(some 8), .alloc [.bool false, .nils, .nils], none⟩,
    ⟨none, .st 3 (.t 8) (.t 49), none⟩] (some [0, 1, 5, 7, 8]))
  (.seq (.seq (.region [⟨(some 9), .mv (.c (.int .i64 0)), none⟩] (some [0, 1, 5, 7, 8, 9]))
  (.block 0 (.loop (.seq (.seq (.region [⟨(some 50), .mv (.t 9), none⟩,
        ⟨(some 51), .mv (.t 7), none⟩,
        ⟨(some 52), .lenS (.t 51), none⟩,
        ⟨(some 53), .cvt .u64 (.t 52), none⟩,
        ⟨(some 54), .bin .shl (.c (.int .i64 1)) (.t 53), none⟩,
        ⟨(some 55), .bin .lss (.t 50) (.t 54), none⟩] (some [0, 1, 5, 7, 8, 9, 55]))
      (.cond (.t 55)
        .skip
        (.exit 0)))
      (.seq (.block 1 (.seq (.region [⟨(some 58), .call 29 [], none⟩,
          ⟨(some 10), .alloc [.bool false, .nils, .nils], none⟩,
          ⟨none, .st 3 (.t 10) (.t 58), none⟩] (some [0, 1, 5, 7, 8, 9, 10]))
        (.seq (.seq (.region [⟨(some 59), .mv (.t 7), none⟩,
          ⟨(some 60), .lenS (.t 59), none⟩,
          ⟨(some 61), .mv (.c (.int .i64 0)), none⟩] (some [0, 1, 5, 7, 8, 9, 10, 60, 61]))
        (.block 2 (.loop (.seq (.region [⟨(some 62), .bin .lss (.t 61) (.t 60), none⟩] (some [0, 1, 5, 7, 8, 9, 10, 60, 61, 62]))
            (.seq (.cond (.t 62)
              .skip
              (.exit 2))
            (.seq (.block 3 (.seq (.region [⟨(some 63), .mv (.t 61), none⟩,
                ⟨(some 11), .mv (.t 63), none⟩] (some [0, 1, 5, 7, 8, 9, 10, 11, 60, 61]))
              (.seq (.region [⟨(some 64), .mv (.t 9), none⟩,
                ⟨(some 65), .mv (.t 11), none⟩,
                ⟨(some 66), .cvt .u64 (.t 65), none⟩,
                ⟨(some 67), .bin .shr (.t 64) (.t 66), none⟩,
                ⟨(some 68), .bin .and (.t 67) (.c (.int .i64 1)), none⟩,
                ⟨(some 69), .bin .eql (.t 68) (.c (.int .i64 1)), none⟩] (some [0, 1, 5, 7, 8, 9, 10, 11, 60, 61, 69]))
              (.cond (.t 69)
                (.region [⟨(some 70), .ld (some 3) (.t 10), none⟩,
                  ⟨(some 71), .mv (.t 0), none⟩,
                  ⟨(some 72), .mv (.t 7), none⟩,
                  ⟨(some 73), .mv (.t 11), none⟩,
                  ⟨(some 74), .ixA 3 (.t 72) (.t 73), none⟩,
                  ⟨(some 75), .ld (some 3) (.t 74), none⟩,
                  ⟨(some 76), .callF 32 [(.t 71), (.t 75)], none⟩,
                  ⟨(some 77), .mv (.t 1), none⟩,
                  ⟨(some 78), .mv (.t 7), none⟩,
                  ⟨(some 79), .mv (.t 11), none⟩,
                  ⟨(some 80), .ixA 3 (.t 78) (.t 79), none⟩,
                  ⟨(some 81), .ld (some 3) (.t 80), none⟩,
                  ⟨(some 82), .callF 32 [(.t 77), (.t 81)], none⟩,
                  ⟨(some 83), .callF 31 [(.t 76), (.t 82)], none⟩,
                  ⟨(some 84), .callF 30 [(.t 70), (.t 83)], none⟩,
                  ⟨none, .st 3 (.t 10) (.t 84), none⟩] (some [0, 1, 5, 7, 8, 9, 10, 60, 61]))
                .skip))))
            (.region [⟨(some 85), .bin .add (.t 61) (.c (.int .i64 1)), none⟩,
              ⟨(some 61), .mv (.t 85), none⟩] (some [0, 1, 5, 7, 8, 9, 10, 60, 61]))))))))
        (.seq (.region [⟨(some 86), .ld (some 3) (.t 10), none⟩,
          ⟨(some 87), .ld (some 3) (.t 8), none⟩,
          ⟨(some 88), .call 27 [(.t 86), (.t 87)], none⟩,
          ⟨(some 89), .bin .gtr (.t 88) (.c (.int .i64 0)), none⟩] (some [0, 1, 5, 7, 8, 9, 10, 89]))
        (.cond (.t 89)
          (.region [⟨(some 90), .ld (some 3) (.t 10), none⟩,
            ⟨none, .st 3 (.t 8) (.t 90), none⟩] (some [0, 1, 5, 7, 8, 9]))
          .skip)))))
      (.region [⟨(some 56), .mv (.t 9), none⟩,
        ⟨(some 57), .bin .add (.t 56) (.c (.int .i64 1)), none⟩,
        ⟨(some 9), .mv (.t 57), none⟩] (some [0, 1, 5, 7, 8, 9])))))))
  (.seq (.region [⟨(some 91), .ld (some 3) (.t 5), none⟩,
    ⟨(some 92), .ld (some 3) (.t 8), none⟩,
    ⟨(some 93), .call 24 [(.t 91), (.t 92)], none⟩,
    ⟨(some 94), .mv (.t 93), none⟩,
    ⟨(some 95), .call 19 [], (some (94, true))⟩,
    ⟨(some 96), .pick (.t 94) (.t 95) (.c (.bool false)), none⟩,
    ⟨(some 4), .mv (.t 96), none⟩] (some [4]))
  .ret)))))))), [.t 4]⟩
theorem law35_CoupleSets_ok : cFn Tryz.prog (kps [[0, 1], [0, 1, 37], [4], [0, 1, 5, 6], [0, 1, 5, 45], [4], [0, 1, 5, 7], [0, 1, 5, 7, 8], [0, 1, 5, 7, 8, 9], [0, 1, 5, 7, 8, 9, 55], [0, 1, 5, 7, 8, 9], [0, 1, 5, 7, 8, 9, 10], [0, 1, 5, 7, 8, 9, 10, 60, 61], [0, 1, 5, 7, 8, 9, 10, 60, 61, 62], [0, 1, 5, 7, 8, 9, 10, 11, 60, 61], [0, 1, 5, 7, 8, 9, 10, 11, 60, 61, 69], [0, 1, 5, 7, 8, 9, 10, 60, 61], [0, 1, 5, 7, 8, 9, 10, 60, 61], [0, 1, 5, 7, 8, 9, 10, 89], [0, 1, 5, 7, 8, 9], [4]]) [] 6 = some law35_CoupleSets_c := by kernel_rfl
end Go.Proofs.YtnneehniendnfaaGreat.F

namespace Go.Proofs.YtnneehniendnfaaGreat
open Go Go.Proofs Go.Proofs.YtnneehniendnfaaGreat.E
set_option linter.unusedSimpArgs false
set_option linter.unusedVariables false

/-- Is the place in the set? -/
def inS (s i : Nat) : Bool := decide (s / 2 ^ i % 2 = 1)
/-- What a set gives. -/
def setQ (d : Nat → Rat) (n s : Nat) : Rat := sumBy (fun i => if inS s i then d i else 0) (List.range n)
theorem inS_zero (s : Nat) : inS s 0 = decide (s % 2 = 1) := by simp [inS]
theorem inS_succ (s i : Nat) : inS s (i + 1) = inS (s / 2) i := by
  unfold inS; rw [Nat.pow_succ, Nat.mul_comm, ← Nat.div_div_eq_div_mul]
/-- Each choice of places is a set. -/
theorem set_of (n : Nat) : ∀ (p : Nat → Bool), ∃ s, s < 2 ^ n ∧ ∀ i, i < n → inS s i = p i := by
  induction n with
  | zero => intro p; exact ⟨0, by simp, fun i h => by omega⟩
  | succ n ih =>
    intro p
    obtain ⟨s, hs, hp⟩ := ih fun i => p (i + 1)
    refine ⟨2 * s + (if p 0 then 1 else 0), by rw [Nat.pow_succ]; split <;> omega, fun i hi => ?_⟩
    cases i with
    | zero => rw [inS_zero]; cases h : p 0 <;> simp <;> omega
    | succ i =>
      rw [inS_succ]
      have : (2 * s + (if p 0 then 1 else 0)) / 2 = s := by split <;> omega
      rw [this]; exact hp i (by omega)
theorem setQ_le (d : Nat → Rat) (n s : Nat) : setQ d n s ≤ sumBy (fun i => posR (d i)) (List.range n) := sumBy_le fun i _ => by
  unfold posR; split <;> split <;> grind
theorem setQ_hit (d : Nat → Rat) (n : Nat) : ∃ s, s < 2 ^ n ∧ setQ d n s = sumBy (fun i => posR (d i)) (List.range n) := by
  obtain ⟨s, hs, hp⟩ := set_of n fun i => !decide (d i < 0)
  refine ⟨s, hs, sumBy_congr fun i hi => ?_⟩
  rw [hp i (by simpa using hi)]
  unfold posR
  by_cases h : d i < 0 <;> simp [h]

def difAt (a b : List Part) (l : List Tr) (i : Nat) : Rat := match l[i]? with
  | some v => wtQ a v - wtQ b v
  | none => 0
theorem difAt_eq {a b : List Part} {l : List Tr} {i : Nat} (h : i < l.length) : difAt a b l i = wtQ a l[i] - wtQ b l[i] := by unfold difAt; rw [List.getElem?_eq_getElem h]
theorem sum_range {f : Tr → Rat} (l : List Tr) : sumBy (fun i => match l[i]? with | some v => f v | none => 0) (List.range l.length) = sumBy f l := by
  suffices h : ∀ n, n ≤ l.length → sumBy (fun i => match l[i]? with | some v => f v | none => 0) (List.range n) = sumBy f (l.take n) by
    have := h l.length (Nat.le_refl _); rwa [List.take_length] at this
  intro n
  induction n with
  | zero => intro _; rfl
  | succ n ih =>
    intro h
    rw [List.range_succ, sumBy_snoc, ih (by omega), sumBy_take (by omega), List.getElem?_eq_getElem (by omega)]
theorem pos_range {a b : List Part} (ga : Good a) (gb : Good b) : sumBy (fun i => posR (difAt a b (valsT a b) i)) (List.range (valsT a b).length) = apartQ a b := by
  have e : (fun i => posR (difAt a b (valsT a b) i)) = fun i => match (valsT a b)[i]? with | some v => posR (wtQ a v - wtQ b v) | none => 0 := by
    funext i; unfold difAt
    cases (valsT a b)[i]? with
    | none => rfl
    | some v => rfl
  rw [e, sum_range (f := fun v => posR (wtQ a v - wtQ b v))]
  unfold valsT apartQ
  rw [sumBy_append, sumBy_map, sumBy_map, sumBy_filter]
  have h2 : sumBy (fun q : Part => if decide (wtQ a q.v = 0) = true then posR (wtQ a q.v - wtQ b q.v) else 0) b = 0 := by
    have h3 : sumBy (fun q : Part => if decide (wtQ a q.v = 0) = true then posR (wtQ a q.v - wtQ b q.v) else 0) b = sumBy (fun _ => 0) b := ?_
    · rw [h3, sumBy_zero]
    refine sumBy_congr fun q hq => ?_
    by_cases e : wtQ a q.v = 0
    · simp only [e, decide_true, if_true]
      rw [wtQ_at b, fAt_mem (dist_of gb.rise) hq]
      have := gb.pos q hq
      unfold posR
      rw [if_pos (by grind)]
    · simp [e]
  rw [h2, Rat.add_zero]
  exact sumBy_congr fun p hp => by rw [wtQ_at a, fAt_mem (dist_of ga.rise) hp]

theorem setQ_take (d : Nat → Rat) (n s : Nat) : setQ d (n + 1) s = setQ d n s + (if inS s n then d n else 0) := by
  unfold setQ; rw [List.range_succ, sumBy_snoc]
theorem setQ_fits {d : Nat → Rat} (hd : ∀ i, Fits (d i) 2000001) (n s : Nat) (hn : n ≤ 200) : Fits (setQ d n s) (2 ^ 30) := by
  refine (sumBy_fits (k := 2000001) _ fun i _ => ?_).mono ?_
  · split
    · exact hd i
    · exact fits_zero.mono (by omega)
  · rw [List.length_range]
    have : n * (2000001 + 1) ≤ 200 * 2000002 := Nat.mul_le_mul_right _ hn
    omega
theorem difAt_fits {a b : List Part} (oa : ∀ p ∈ a, p.Ok 1000000) (ob : ∀ p ∈ b, p.Ok 1000000) (l : List Tr) (i : Nat) : Fits (difAt a b l i) 2000001 := by
  unfold difAt; split
  · exact dif_fits oa ob _
  · exact fits_zero.mono (by omega)

theorem and_one (x : Nat) (h : x < 9223372036854775808) : bits .and .i64 (x : Int) 1 = ((x % 2 : Nat) : Int) := by
  have h1 : (BitVec.ofInt 64 (x : Int)).toNat = x := by
    rw [BitVec.ofInt_natCast, BitVec.toNat_ofNat]; exact Nat.mod_eq_of_lt (by omega)
  have h2 : (BitVec.ofInt 64 1).toNat = 1 := by decide
  show IntKind.i64.wrap ((BitVec.ofInt 64 (x : Int) &&& BitVec.ofInt 64 1).toNat : Int) = _
  rw [BitVec.toNat_and, h1, h2, show (1 : Nat) = 2 ^ 1 - 1 from rfl, Nat.and_two_pow_sub_one_eq_mod]
  exact wrap64 (by omega) (by omega)
theorem shr_nat (s i : Nat) (h : i < 64) : ((s : Int).fdiv (2 ^ min i 64)) = ((s / 2 ^ i : Nat) : Int) := by
  have e2 : ((2 ^ i : Nat) : Int) = 2 ^ i := by simp
  rw [Nat.min_eq_left (by omega), ← e2]
  exact Int.fdiv_eq_ediv_of_nonneg _ (Int.natCast_nonneg _)

set_option maxHeartbeats 8000000 in
theorem coupleSets_law {l0 l1 : List (List V)} (h0 : ∃ n, Typed Tryz.prog n 22 [.dat l0]) (h1 : ∃ n, Typed Tryz.prog n 22 [.dat l1]) : CallD Tryz.prog 6 [.dat l0, .dat l1] (· = .bool true) := by
  obtain ⟨a, rfl, la, ha⟩ := read_parts h0
  obtain ⟨b, rfl, lb, hb⟩ := read_parts h1
  refine callD_by F.law35_CoupleSets_ok ?_
  unfold F.law35_CoupleSets_c
  simp
  refine callK_of (law35_Few la ha) (by simp) ?_
  cases fa : fewP a with
  | false => simp
  | true =>
  simp
  refine callK_of (law35_Few lb hb) (by simp) ?_
  cases fb : fewP b with
  | false => simp
  | true =>
  obtain ⟨na, oa3⟩ := fewP_ok fa ha
  obtain ⟨nb, ob3⟩ := fewP_ok fb hb
  have oa : ∀ p ∈ a, p.Ok 1000000 := fun p h => (oa3 p h).mono (by omega)
  have ob : ∀ p ∈ b, p.Ok 1000000 := fun p h => (ob3 p h).mono (by omega)
  simp
  rw [wrap64 (by omega) (by omega)]
  by_cases hab : (10 : Int) < a.length + b.length
  · simp [hab]
  simp [hab]
  refine callK_of (ref35_Right (by omega) oa) (by simp) ?_
  cases ra : rightP a with
  | false => simp
  | true =>
  simp
  refine callK_of (ref35_Right (by omega) ob) (by simp) ?_
  cases rb : rightP b with
  | false => simp
  | true =>
  have ga := good_of ra oa
  have gb := good_of rb ob
  have lv := vals_len a b
  simp
  refine callK_of (couple_Apart (by omega) (by omega) oa ob) (by simp) ?_
  rw [apartV_good ra rb]
  simp [setOb, List.filter_cons, ratV, raw_v]
  refine callK_of (ref35_Values (by omega) (by omega) ga ob) (by simp) ?_
  simp
  refine callK_of ref02_Zero (by simp) ?_
  simp [setOb, List.filter_cons, ratV, raw_v]
  generalize hn : (valsT a b).length = n
  have fd := difAt_fits oa ob (valsT a b)
  refine wm_loop (fun g : Nat × Rat => ((((((Sl.empty.set 9 (.int .i64 g.1)).set 8 (.ptr 1 0 0)).set 7 (tl (valsT a b))).set 5 (.ptr 0 0 0)).set 1 (pl b)).set 0 (pl a), [(0, ⟨.own, 3, [(rawOf (apartQ a b)).c]⟩), (1, ⟨.own, 3, [(rawOf g.2).c]⟩)]))
    (fun g => g.1 ≤ 2 ^ n ∧ Fits g.2 (2 ^ 30) ∧ g.2 ≤ apartQ a b ∧ ∀ s, s < g.1 → setQ (difAt a b (valsT a b)) n s ≤ g.2) (fun g => 2 ^ n - g.1) (0, 0) ?_ ?_ ?_
  · refine ⟨Nat.zero_le _, fits_zero.mono (by omega), ?_, fun s hs => absurd hs (Nat.not_lt_zero _)⟩
    have := sumBy_le (f := fun _ : Part => (0 : Rat)) (g := fun p => posR (p.w.q - wtQ b p.v)) (l := a) fun p _ => by unfold posR; split <;> grind
    rw [sumBy_zero] at this
    exact this
  · refine weak_obs ?_ (by simp) (by repeat (first | exact sin_empty | refine sin_set (by simp) ?_)) ?_
    · repeat (first | exact sub_empty | refine sub_set (by simp) ?_)
    · simp
      exact ⟨fun y hy => rawc_within _ y hy, fun y hy => rawc_within _ y hy⟩
  rintro ⟨s, m⟩ ⟨h2, h3, h4, h5⟩
  dsimp only at h2 h3 h4 h5
  have n10 : n ≤ 10 := by omega
  have p10 : 2 ^ n ≤ 1024 := Nat.pow_le_pow_right (by omega) n10
  have ew : IntKind.u64.wrap (n : Int) = n := wrapU64 (by omega) (by omega)
  have ep : IntKind.i64.wrap (2 ^ min n 64) = ((2 ^ n : Nat) : Int) := by
    have e2 : ((2 ^ n : Nat) : Int) = 2 ^ n := by simp
    rw [Nat.min_eq_left (by omega), ← e2, wrap64 (by omega) (by omega)]
  generalize hP : 2 ^ n = P at *
  by_cases h6 : s < P
  · simp [hn]
    rw [ew]
    simp
    rw [ep]
    have q2 : ¬ P ≤ s := by omega
    simp [h6, q2]
    refine callK_of ref02_Zero (by simp) ?_
    simp [setOb, List.filter_cons, ratV, raw_v, hn]
    refine wm_loop (fun g : Nat => (((((((((Sl.empty.set 61 (.int .i64 g)).set 60 (.int .i64 n)).set 10 (.ptr 2 0 0)).set 9 (.int .i64 s)).set 8 (.ptr 1 0 0)).set 7 (tl (valsT a b))).set 5 (.ptr 0 0 0)).set 1 (pl b)).set 0 (pl a), [(0, ⟨.own, 3, [(rawOf (apartQ a b)).c]⟩), (1, ⟨.own, 3, [(rawOf m).c]⟩), (2, ⟨.own, 3, [(rawOf (setQ (difAt a b (valsT a b)) g s)).c]⟩)]))
      (fun g => g ≤ n) (fun g => n - g) 0 (by omega) ?_ ?_
    · refine weak_obs ?_ (by simp [setQ, sumBy]) (by repeat (first | exact sin_empty | refine sin_set (by simp) ?_)) ?_
      · repeat (first | exact sub_empty | refine sub_set (by simp) ?_)
      · simp
        exact ⟨fun y hy => rawc_within _ y hy, fun y hy => rawc_within _ y hy, fun y hy => rawc_within _ y hy⟩
    intro i hi
    by_cases h7 : i < n
    · have h7' : i < (valsT a b).length := by omega
      generalize hval : (valsT a b)[i] = v
      have okv : v.Ok := by rw [← hval]; exact vals_ok oa ob _ (List.getElem_mem h7')
      have ed : difAt a b (valsT a b) i = wtQ a v - wtQ b v := by rw [difAt_eq h7', hval]
      have hst := setQ_take (difAt a b (valsT a b)) i s
      have ei : IntKind.u64.wrap (i : Int) = i := wrapU64 (by omega) (by omega)
      simp [h7]
      have hsi : s / 2 ^ i < 9223372036854775808 := Nat.lt_of_le_of_lt (Nat.div_le_self _ _) (by omega)
      rw [ei]
      simp
      rw [shr_nat s i (by omega), and_one _ hsi]
      have fa' : (rawOf (wtQ a v)).Ok (2 ^ 31) := rawOf_ok ((wtQ_fits oa v).mono (by omega))
      have fb' : (rawOf (wtQ b v)).Ok (2 ^ 31) := rawOf_ok ((wtQ_fits ob v).mono (by omega))
      by_cases hb1 : s / 2 ^ i % 2 = 1
      · have q1 : ((s / 2 ^ i % 2 : Nat) : Int) = 1 := by omega
        have q3 : inS s i = true := decide_eq_true hb1
        rw [q3, if_pos rfl, ed] at hst
        rw [q1]
        simp [hval, h7']
        refine callFK_of (ref35_Weight (by omega) oa ga.norm okv) (by simp [toD_cells]) ?_
        simp [ratV, raw_v, hval, h7']
        refine callFK_of (ref35_Weight (by omega) ob gb.norm okv) (by simp [toD_cells]) ?_
        simp [ratV, raw_v]
        refine callFK_of (ref02_Sub fa' fb') (by simp [toD_rawc, raw_v]) ?_
        simp [ratV, raw_v, rawOf_q]
        refine callFK_of (ref02_Add (rawOf_ok ((setQ_fits fd i s (by omega)).mono (by omega))) (rawOf_ok ((dif_fits oa ob v).mono (by omega)))) (by simp [toD_rawc, raw_v]) ?_
        simp [ratV, raw_v, rawOf_q, ← hst, setOb, List.filter_cons]
        rw [wrap64 (by omega) (by omega)]
        refine ⟨i + 1, h7, by dsimp only; omega, ?_⟩
        refine weak_obs ?_ (by simp) (by repeat (first | exact sin_empty | refine sin_set (by simp) ?_)) ?_
        · repeat (first | exact sub_empty | refine sub_set (by simp) ?_)
        · simp
          exact ⟨fun y hy => rawc_within _ y hy, fun y hy => rawc_within _ y hy, fun y hy => rawc_within _ y hy⟩
      · have q1 : ¬ ((s / 2 ^ i % 2 : Nat) : Int) = 1 := by omega
        have q3 : inS s i = false := decide_eq_false hb1
        rw [q3, if_neg (by simp), Rat.add_zero] at hst
        generalize ((s / 2 ^ i % 2 : Nat) : Int) = z at *
        simp [q1]
        rw [wrap64 (by omega) (by omega)]
        refine ⟨i + 1, h7, by dsimp only; omega, ?_⟩
        refine weak_obs ?_ (by simp [hst]) (by repeat (first | exact sin_empty | refine sin_set (by simp) ?_)) ?_
        · repeat (first | exact sub_empty | refine sub_set (by simp) ?_)
        · simp
          exact ⟨fun y hy => rawc_within _ y hy, fun y hy => rawc_within _ y hy, fun y hy => rawc_within _ y hy⟩
    · have hil : i = n := by omega
      subst hil
      have fs := setQ_fits fd i s (by omega)
      have hle := setQ_le (difAt a b (valsT a b)) i s
      rw [← hn, pos_range ga gb, hn] at hle
      have up : ∀ m', m ≤ m' → setQ (difAt a b (valsT a b)) i s ≤ m' → ∀ s', s' < s + 1 → setQ (difAt a b (valsT a b)) i s' ≤ m' := fun m' g1 g2 s' hs' => by
        by_cases e : s' = s
        · rw [e]; exact g2
        · exact Rat.le_trans (h5 s' (by omega)) g1
      simp
      refine callK_of (ref02_Compare (rawOf_ok (fs.mono (by omega))) (rawOf_ok (h3.mono (by omega)))) (by simp [toD_rawc, raw_v]) ?_
      rw [rawOf_q, rawOf_q]
      by_cases hgt : m < setQ (difAt a b (valsT a b)) i s
      · have q1 : 0 < cmpR (setQ (difAt a b (valsT a b)) i s) m := by unfold cmpR; rw [if_neg (by grind), if_pos hgt]; omega
        simp [q1, setOb, List.filter_cons]
        rw [wrap64 (by omega) (by omega)]
        refine ⟨(s + 1, setQ (difAt a b (valsT a b)) i s), ⟨by dsimp only; omega, fs, hle, up _ (by grind) (by grind)⟩, by dsimp only; omega, ?_⟩
        refine weak_obs ?_ (by simp) (by repeat (first | exact sin_empty | refine sin_set (by simp) ?_)) ?_
        · repeat (first | exact sub_empty | refine sub_set (by simp) ?_)
        · simp
          exact ⟨fun y hy => rawc_within _ y hy, fun y hy => rawc_within _ y hy⟩
      · have q1 : ¬ 0 < cmpR (setQ (difAt a b (valsT a b)) i s) m := by unfold cmpR; rw [if_neg hgt]; split <;> omega
        simp [q1]
        rw [wrap64 (by omega) (by omega)]
        refine ⟨(s + 1, m), ⟨by dsimp only; omega, h3, h4, up _ (by grind) (by grind)⟩, by dsimp only; omega, ?_⟩
        refine weak_obs ?_ (by simp) (by repeat (first | exact sin_empty | refine sin_set (by simp) ?_)) ?_
        · repeat (first | exact sub_empty | refine sub_set (by simp) ?_)
        · simp
          exact ⟨fun y hy => rawc_within _ y hy, fun y hy => rawc_within _ y hy⟩
  · simp [hn]
    rw [ew]
    simp
    rw [ep]
    have q2 : P ≤ s := by omega
    simp [h6, q2]
    obtain ⟨s0, hs0, hit⟩ := setQ_hit (difAt a b (valsT a b)) n
    rw [← hn, pos_range ga gb, hn] at hit
    have hm : m = apartQ a b := by
      have := h5 s0 (by omega)
      rw [hit] at this
      grind
    have fap : (rawOf (apartQ a b)).Ok (2 ^ 31) := rawOf_ok ((hm ▸ h3).mono (by omega))
    rw [hm]
    refine callK_of (ref02_Same fap fap) (by simp [toD_rawc, raw_v]) ?_
    simp
    refine callK_of law35_alive (by simp) ?_
    simp
end Go.Proofs.YtnneehniendnfaaGreat
