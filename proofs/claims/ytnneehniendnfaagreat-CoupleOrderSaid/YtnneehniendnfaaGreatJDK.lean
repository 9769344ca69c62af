/- The best coupling is one, and no coupling has less off the diagonal; plain. -/
import Derived.Test.YtnneehniendnfaaGreatJDJ
namespace Go.Proofs.YtnneehniendnfaaGreat
open Go Go.Proofs Go.Proofs.YtnneehniendnfaaGreat.E
set_option linter.unusedSimpArgs false
set_option linter.unusedVariables false
def rwS (L : List Pq) (i : Int) : Rat := sumBy (fun p => if p.A = i then p.q else 0) L
def clS (L : List Pq) (i : Int) : Rat := sumBy (fun p => if p.B = i then p.q else 0) L
theorem rwS_append (L M : List Pq) (i : Int) : rwS (L ++ M) i = rwS L i + rwS M i := sumBy_append _ _
theorem clS_append (L M : List Pq) (i : Int) : clS (L ++ M) i = clS L i + clS M i := sumBy_append _ _
theorem rwS_one (p : Pq) (i : Int) : rwS [p] i = if p.A = i then p.q else 0 := by
  show sumBy _ [p] = _; rw [sumBy_cons, sumBy_nil, Rat.add_zero]
theorem clS_one (p : Pq) (i : Int) : clS [p] i = if p.B = i then p.q else 0 := by
  show sumBy _ [p] = _; rw [sumBy_cons, sumBy_nil, Rat.add_zero]
theorem sumS_by (f : Pr → Int) (ps : List Pr) (i : Int) : sumS f ps i = sumBy (fun p => if f p = i then p.w.q else 0) ps := by
  unfold sumS sumBy
  congr 1
  funext s p
  split <;> grind
theorem sum_pick (n : Nat) (x : Int) (c : Rat) : sumBy (fun i : Nat => if x = (i : Int) then c else 0) (List.range n) = if 0 ≤ x ∧ x < n then c else 0 := by
  induction n with
  | zero => rw [if_neg (by omega)]; rfl
  | succ n ih =>
    rw [List.range_succ, sumBy_snoc, ih]
    by_cases h : x = (n : Int)
    · rw [if_neg (by omega), if_pos h, if_pos (by omega), Rat.zero_add]
    · by_cases h2 : 0 ≤ x ∧ x < n
      · rw [if_pos h2, if_neg h, if_pos (by omega), Rat.add_zero]
      · rw [if_neg h2, if_neg h, if_neg (by omega), Rat.add_zero]
theorem sum_range {α : Type} {f : α → Rat} {g : Nat → Rat} {l : List α} (h : ∀ i (hi : i < l.length), g i = f l[i]) : sumBy g (List.range l.length) = sumBy f l := by
  suffices h2 : ∀ n, n ≤ l.length → sumBy g (List.range n) = sumBy f (l.take n) by
    have := h2 l.length (Nat.le_refl _); rwa [List.take_length] at this
  intro n
  induction n with
  | zero => intro _; rfl
  | succ n ih =>
    intro hn
    rw [List.range_succ, sumBy_snoc, sumBy_take (by omega), ih (by omega), h n (by omega)]
theorem sum_nonneg {α : Type} {f : α → Rat} {l : List α} (h : ∀ x ∈ l, 0 ≤ f x) : 0 ≤ sumBy f l := by
  have := sumBy_le (f := fun _ : α => (0 : Rat)) (g := f) (l := l) h
  rwa [sumBy_zero] at this
theorem sum_none {l : List Rat} (h : ∀ v ∈ l, 0 ≤ v) (h0 : sumBy id l = 0) : ∀ v ∈ l, v = 0 := by
  induction l with
  | nil => simp
  | cons a l ih =>
    rw [sumBy_cons] at h0
    have h1 := h a (by simp)
    have h2 := sum_nonneg (f := id) (l := l) fun v hv => h v (by simp [hv])
    simp only [id] at h0
    intro v hv
    rcases List.mem_cons.1 hv with rfl | hv
    · grind
    · exact ih (fun v hv => h v (by simp [hv])) (by grind) v hv
theorem sum_set : ∀ {l : List Rat} {i : Nat} (h : i < l.length) (v : Rat), sumBy id (l.set i v) = sumBy id l - l[i] + v
  | a :: l, 0, h, v => by simp only [List.set_cons_zero, List.getElem_cons_zero, sumBy_cons, id]; grind
  | a :: l, i + 1, h, v => by
    simp only [List.set_cons_succ, List.getElem_cons_succ, sumBy_cons, id]
    rw [sum_set (l := l) (i := i) (by simpa using h) v]; grind
theorem at0_none {l : List Rat} {i : Nat} (h : l.length ≤ i) : at0 l i = 0 := by unfold at0; rw [List.getElem?_eq_none h]; rfl
theorem at0_mem {l : List Rat} (h : ∀ v ∈ l, v = 0) (i : Nat) : at0 l i = 0 := by
  by_cases hi : i < l.length
  · rw [at0_eq hi]; exact h _ (List.getElem_mem hi)
  · exact at0_none (by omega)
theorem at0_set {l : List Rat} {i : Nat} (hi : i < l.length) (v : Rat) (j : Nat) : at0 (l.set i v) j = if i = j then v else at0 l j := by
  unfold at0
  by_cases h : i = j
  · subst h; rw [List.getElem?_set_self hi, if_pos rfl]; rfl
  · rw [List.getElem?_set_ne h, if_neg h]
theorem sum_at0 {l : List Rat} (h : ∀ i, at0 l i = 0) : sumBy id l = 0 := by
  have : sumBy id l = sumBy (fun _ => 0) l := sumBy_congr fun v hv => by
    obtain ⟨i, hi, rfl⟩ := List.getElem_of_mem hv
    have := h i; rw [at0_eq hi] at this; exact this
  rw [this, sumBy_zero]
theorem gr_sums : ∀ (f : Nat) {x y : List Rat} {i k : Nat}, (x.length - i) + (y.length - k) ≤ f → (∀ v ∈ x, 0 ≤ v) → (∀ v ∈ y, 0 ≤ v) → (∀ j, j < i → at0 x j = 0) → (∀ j, j < k → at0 y j = 0) → sumBy id x = sumBy id y →
    (∀ r : Nat, rwS (gr x y i k) r = at0 x r) ∧ (∀ r : Nat, clS (gr x y i k) r = at0 y r) ∧ ∀ p ∈ gr x y i k, (0 ≤ p.A ∧ p.A < x.length) ∧ (0 ≤ p.B ∧ p.B < y.length) := by
  intro f
  induction f with
  | zero =>
    intro x y i k hf nx ny zx zy hs
    have ax : ∀ j, at0 x j = 0 := fun j => by
      by_cases h : j < x.length
      · exact zx j (by omega)
      · exact at0_none (by omega)
    have ay : ∀ j, at0 y j = 0 := fun j => by
      by_cases h : j < y.length
      · exact zy j (by omega)
      · exact at0_none (by omega)
    rw [gr_end (by omega)]
    exact ⟨fun r => by rw [ax]; rfl, fun r => by rw [ay]; rfl, by simp⟩
  | succ f ih =>
    intro x y i k hf nx ny zx zy hs
    by_cases h : i < x.length ∧ k < y.length
    · obtain ⟨hi, hk⟩ := h
      have ni := nx _ (List.getElem_mem hi)
      have nk := ny _ (List.getElem_mem hk)
      obtain ⟨m1, m2, m3⟩ := minR_le x[i] y[k]
      have mn : 0 ≤ minR x[i] y[k] := by rcases m3 with m3 | m3 <;> rw [m3] <;> assumption
      rw [gr_step hi hk]
      generalize hw : minR x[i] y[k] = w at *
      have nx' : ∀ v ∈ x.set i (x[i] - w), 0 ≤ v := fun v hv => by
        rcases List.mem_or_eq_of_mem_set hv with hv | rfl
        · exact nx v hv
        · grind
      have ny' : ∀ v ∈ y.set k (y[k] - w), 0 ≤ v := fun v hv => by
        rcases List.mem_or_eq_of_mem_set hv with hv | rfl
        · exact ny v hv
        · grind
      have hs' : sumBy id (x.set i (x[i] - w)) = sumBy id (y.set k (y[k] - w)) := by rw [sum_set hi, sum_set hk, hs]; grind
      have zx' : ∀ j, j < i → at0 (x.set i (x[i] - w)) j = 0 := fun j hj => by rw [at0_set hi, if_neg (by omega)]; exact zx j hj
      have zy' : ∀ j, j < k → at0 (y.set k (y[k] - w)) j = 0 := fun j hj => by rw [at0_set hk, if_neg (by omega)]; exact zy j hj
      have key : ∀ g : List Pq, ((∀ r : Nat, rwS g r = at0 (x.set i (x[i] - w)) r) ∧ (∀ r : Nat, clS g r = at0 (y.set k (y[k] - w)) r) ∧ ∀ p ∈ g, (0 ≤ p.A ∧ p.A < (x.set i (x[i] - w)).length) ∧ (0 ≤ p.B ∧ p.B < (y.set k (y[k] - w)).length)) →
          (∀ r : Nat, rwS ((if 0 < w then [(⟨i, k, w⟩ : Pq)] else []) ++ g) r = at0 x r) ∧ (∀ r : Nat, clS ((if 0 < w then [(⟨i, k, w⟩ : Pq)] else []) ++ g) r = at0 y r) ∧ ∀ p ∈ (if 0 < w then [(⟨i, k, w⟩ : Pq)] else []) ++ g, (0 ≤ p.A ∧ p.A < x.length) ∧ (0 ≤ p.B ∧ p.B < y.length) := by
        rintro g ⟨g1, g2, g3⟩
        have e1 : ∀ r : Nat, rwS (if 0 < w then [(⟨i, k, w⟩ : Pq)] else []) r = if i = r then w else 0 := fun r => by
          by_cases h0 : 0 < w
          · rw [if_pos h0, rwS_one]
            by_cases e : i = r
            · subst e; simp
            · rw [if_neg e, if_neg]; dsimp only; omega
          · have : w = 0 := by grind
            rw [if_neg h0, this]; simp; rfl
        have e2 : ∀ r : Nat, clS (if 0 < w then [(⟨i, k, w⟩ : Pq)] else []) r = if k = r then w else 0 := fun r => by
          by_cases h0 : 0 < w
          · rw [if_pos h0, clS_one]
            by_cases e : k = r
            · subst e; simp
            · rw [if_neg e, if_neg]; dsimp only; omega
          · have : w = 0 := by grind
            rw [if_neg h0, this]; simp; rfl
        refine ⟨fun r => ?_, fun r => ?_, fun p hp => ?_⟩
        · rw [rwS_append, e1, g1, at0_set hi]
          by_cases e : i = r
          · subst e; simp only [if_true]; rw [at0_eq hi]; grind
          · simp only [e, if_false, Rat.zero_add]
        · rw [clS_append, e2, g2, at0_set hk]
          by_cases e : k = r
          · subst e; simp only [if_true]; rw [at0_eq hk]; grind
          · simp only [e, if_false, Rat.zero_add]
        · rcases List.mem_append.1 hp with hp | hp
          · by_cases h0 : 0 < w
            · rw [if_pos h0] at hp; simp only [List.mem_singleton] at hp; subst hp; dsimp only; omega
            · rw [if_neg h0] at hp; simp at hp
          · have := g3 p hp; simpa using this
      by_cases c : x[i] - w = 0
      · rw [if_pos c]
        refine key _ (ih (by simp; omega) nx' ny' (fun j hj => ?_) zy' hs')
        by_cases e : j = i
        · subst e; rw [at0_set hi, if_pos rfl]; exact c
        · exact zx' j (by omega)
      · rw [if_neg c]
        refine key _ (ih (by simp; omega) nx' ny' zx' (fun j hj => ?_) hs')
        by_cases e : j = k
        · subst e; rw [at0_set hk, if_pos rfl]; rcases m3 with m3 | m3 <;> grind
        · exact zy' j (by omega)
    · rw [gr_end h]
      have two : (∀ r, at0 x r = 0) ∧ ∀ r, at0 y r = 0 := by
        by_cases hi : i < x.length
        · have hk : y.length ≤ k := by omega
          have ay : ∀ j, at0 y j = 0 := fun j => by
            by_cases h : j < y.length
            · exact zy j (by omega)
            · exact at0_none (by omega)
          exact ⟨at0_mem (sum_none nx (by rw [hs]; exact sum_at0 ay)), ay⟩
        · have ax : ∀ j, at0 x j = 0 := fun j => by
            by_cases h : j < x.length
            · exact zx j (by omega)
            · exact at0_none (by omega)
          exact ⟨ax, at0_mem (sum_none ny (by rw [← hs]; exact sum_at0 ax))⟩
      exact ⟨fun r => by rw [two.1]; rfl, fun r => by rw [two.2]; rfl, by simp⟩
theorem at0_wq (l : List Part) (r : Nat) : at0 (l.map (·.w.q)) r = wq l r := by
  unfold at0 wq; rw [List.getElem?_map]; cases l[r]? <;> rfl
structure Cpl (a b : List Part) (L : List Pq) : Prop where
  inn : ∀ p ∈ L, (0 ≤ p.A ∧ p.A < a.length) ∧ (0 ≤ p.B ∧ p.B < b.length)
  pos : ∀ p ∈ L, 0 < p.q
  row : ∀ i : Nat, i < a.length → rwS L i = wq a i
  col : ∀ i : Nat, i < b.length → clS L i = wq b i
def Pr.pq (p : Pr) : Pq := ⟨p.A, p.B, p.w.q⟩
theorem cpl_of {a b : List Part} {l : List Pr} (h : couplesP a b l = true) : Cpl a b (l.map Pr.pq) := by
  simp only [couplesP, Bool.and_eq_true, List.all_eq_true, List.mem_range, decide_eq_true_eq] at h
  obtain ⟨⟨⟨⟨_, _⟩, h1⟩, h2⟩, h3⟩ := h
  have h4 : ∀ p ∈ l, (0 ≤ p.A ∧ p.A < a.length ∧ 0 ≤ p.B ∧ p.B < b.length) ∧ 0 < p.w.q := fun p hp => by
    obtain ⟨i, hi, rfl⟩ := List.getElem_of_mem hp
    have := h1 i hi
    rw [okAt_eq hi] at this
    simp only [Bool.and_eq_true, decide_eq_true_eq] at this
    exact ⟨this.1.1.1, this.1.2⟩
  refine ⟨fun p hp => ?_, fun p hp => ?_, fun i hi => ?_, fun i hi => ?_⟩
  · obtain ⟨q, hq, rfl⟩ := List.mem_map.1 hp
    have := (h4 q hq).1
    exact ⟨⟨this.1, this.2.1⟩, this.2.2⟩
  · obtain ⟨q, hq, rfl⟩ := List.mem_map.1 hp
    exact (h4 q hq).2
  · rw [← h2 i hi, sumS_by]; unfold rwS; rw [sumBy_map]; rfl
  · rw [← h3 i hi, sumS_by]; unfold clS; rw [sumBy_map]; rfl
theorem raw_right {r : Rat} {k : Nat} (h : Fits r k) : (rawOf r).right = true := (Raw.right_iff (rawOf_ok h)).2 (by rw [rawOf_q])
theorem of_cpl {a b : List Part} (ra : rightP a = true) (rb : rightP b = true) {G : List Pq} (u : Up G) (h : Cpl a b G) (hf : ∀ p ∈ G, Fits p.q (2 ^ 30)) : couplesP a b (G.map Pq.pr) = true := by
  simp only [couplesP, Bool.and_eq_true, List.all_eq_true, List.mem_range, decide_eq_true_eq]
  refine ⟨⟨⟨⟨ra, rb⟩, fun i hi => ?_⟩, fun i hi => ?_⟩, fun i hi => ?_⟩
  · have hi' : i < G.length := by simpa using hi
    rw [okAt_eq hi]
    simp only [List.getElem_map, Bool.and_eq_true, decide_eq_true_eq]
    have h1 := h.inn _ (List.getElem_mem hi')
    refine ⟨⟨⟨⟨h1.1.1, h1.1.2, h1.2.1, h1.2.2⟩, raw_right (hf _ (List.getElem_mem hi'))⟩, ?_⟩, ?_⟩
    · show 0 < (rawOf _).q; rw [rawOf_q]; exact h.pos _ (List.getElem_mem hi')
    · by_cases h0 : i = 0
      · subst h0; rfl
      · rw [ordB_pos hi h0]
        simp only [List.getElem_map, decide_eq_true_eq]
        rw [cmp_ltk]
        unfold Up at u
        rw [List.pairwise_iff_getElem] at u
        exact u (i - 1) i (by omega) hi' (by omega)
  · rw [sumS_by, sumBy_map, ← h.row i hi]
    exact sumBy_congr fun p _ => by show (if p.A = _ then (rawOf p.q).q else 0) = _; rw [rawOf_q]
  · rw [sumS_by, sumBy_map, ← h.col i hi]
    exact sumBy_congr fun p _ => by show (if p.B = _ then (rawOf p.q).q else 0) = _; rw [rawOf_q]
end Go.Proofs.YtnneehniendnfaaGreat
