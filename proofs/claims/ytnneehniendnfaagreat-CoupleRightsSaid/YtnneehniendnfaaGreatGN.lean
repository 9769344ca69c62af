/- Joined texts: CVal8, CVal9, CVal10. -/
import Derived.Test.YtnneehniendnfaaGreatGM
import Derived.Test.YtnneehniendnfaaGreatGG
/- Values, by contract: their shapes. -/
namespace Go.Proofs.YtnneehniendnfaaGreat
open Go Go.Proofs Go.Proofs.YtnneehniendnfaaGreat.E
set_option linter.unusedSimpArgs false
set_option linter.unusedVariables false

theorem value_has {k n : Int} {l : List Tr} (hk : k = 1 ∨ k = 2) : CallD Tryz.prog F.value_has [.agg [.int .i64 k, .dat []], .agg (Tr.mk k n l).cells] (· = .bool (leafOK k n l)) := by
  refine callD_by F.value_has_ok ?_
  unfold F.value_has_c leafOK
  have hle : ((l.length : Int) = 0) ↔ l = [] := by rw [← List.length_eq_zero_iff]; omega
  rcases hk with rfl | rfl
  · by_cases h0 : n = 0
    · simp [cells_mk, setOb, List.filter_cons, h0, hle]
    · by_cases h1 : n = 1
      · simp [cells_mk, setOb, List.filter_cons, h1, hle]
      · simp [cells_mk, setOb, List.filter_cons, h0, h1, hle]
  · by_cases h0 : -2147483648 ≤ n
    · by_cases h1 : n ≤ 2147483647
      · simp [cells_mk, setOb, List.filter_cons, h0, h1, hle]
      · simp [cells_mk, setOb, List.filter_cons, h0, h1, hle]
    · simp [cells_mk, setOb, List.filter_cons, h0, hle]

/-- What shape answers. -/
def shapeR (o : Option Ty) (r : V) : Prop := match o with
  | some t => r = .tup [.agg t.cells, .bool true]
  | none => ∃ (k : Int) (d : List (List V)), r = .tup [.agg [.int .i64 k, .dat d], .bool false]

theorem toD_nilL (σ : Sto) (n : Nat) : toD σ (n + 1) .nils = some (.dat []) := rfl

/-- Two cells, a number and a list that grows, written out. -/
theorem toD_out {σ : Sto} {o n es : Nat} {k : Int} {l : List (List V)} (h : n ≠ 0 → E.look σ o = some ⟨.own, es, l⟩) (he : es ≠ 0) (hl : l.length = n) (hd : ∀ r ∈ l, mapO (toD σ 9) r = some r) : toD σ 11 (.agg [.int .i64 k, grown o n]) = some (.agg [.int .i64 k, .dat l]) := by
  simp
  rw [toD_grown (k := 9) h (by simp) he hl hd]

set_option maxHeartbeats 4000000 in
theorem value_shape : ∀ {a : Tr}, a.Ok → ∀ {left : Int}, 0 ≤ left → left ≤ 1000 → CallD Tryz.prog F.value_shape [.agg a.cells, .int .i64 left] (shapeR (shapeT a left)) := by
  intro a
  induction a using Tr.ind with
  | h k n l ih =>
    intro ha left hl0 hl1
    cases ha with
    | mk hk hn hl hc =>
    refine callD_by F.value_shape_ok ?_
    unfold F.value_shape_c
    rw [shapeT_mk]
    by_cases h0 : left < 1
    · simp [cells_mk, setOb, List.filter_cons, h0, shapeR]
    simp only [h0, if_false]
    by_cases h1 : k = 1 ∨ k = 2
    · have hh := value_has (n := n) (l := l) h1
      simp only [cells_mk] at hh
      have h1b : (k = 1) = True ∨ (k = 1) = False ∧ (k = 2) = True := by rcases h1 with h | h <;> subst h <;> simp
      simp only [h1, if_true]
      rcases h1 with rfl | rfl
      · simp [cells_mk, setOb, List.filter_cons, h0]
        refine callFK_of hh (by simp) ?_
        cases leafOK 1 n l <;> simp [setOb, List.filter_cons, shapeR, tcells_mk]
      · simp [cells_mk, setOb, List.filter_cons, h0]
        refine callFK_of hh (by simp) ?_
        cases leafOK 2 n l <;> simp [setOb, List.filter_cons, shapeR, tcells_mk]
    have h1a : ¬ k = 1 := fun h => h1 (.inl h)
    have h1b : ¬ k = 2 := fun h => h1 (.inr h)
    simp only [h1, if_false]
    by_cases h3 : k = 3 ∧ n = 0 ∧ 2 ≤ l.length ∧ l.length ≤ 4
    · simp only [h3, and_self, if_true]
      obtain ⟨rfl, rfl, h4, h5⟩ := h3
      have h4' : (2 : Int) ≤ l.length := by omega
      have h5' : (l.length : Int) ≤ 4 := by omega
      simp [cells_mk, setOb, List.filter_cons, h0, h4', h5', h4, h5]
      refine wm_loop (fun g : Nat × List Ty => ((((((Sl.empty.set 60 (.int .i64 g.2.length)).set 59 (.int .i64 l.length)).set 58 (tl l)).set 6 (.ptr 2 0 0)).set 4 (.ptr 1 0 0)).set 1 (.int .i64 left), [(1, ⟨.own, 2, [[.int .i64 0, .nils]]⟩), (2, ⟨.own, 2, [[.int .i64 3, grown g.1 g.2.length]]⟩)] ++ grownS g.1 2 g.2.length (g.2.map fun x => x.cells)))
        (fun g => g.2.length ≤ l.length ∧ 2 < g.1 ∧ shapeL l (left - 1) = (shapeL (l.drop g.2.length) (left - 1)).map (g.2 ++ ·)) (fun g => l.length - g.2.length) (3, []) ⟨by simp, by simp, by simp⟩ ?_ ?_
      · refine weak_obs ?_ (by simp [grown_zero, grownS_zero]) (by repeat (first | exact sin_empty | refine sin_set (by simp) ?_)) (by simp [grown_zero, grownS_zero])
        repeat (first | exact sub_empty | refine sub_set (by simp) ?_)
      rintro ⟨o, xs⟩ ⟨hi, ho, hj⟩
      dsimp only at hi ho hj
      have q0 : ¬ o = 0 := by omega
      have q1 : ¬ o = 1 := by omega
      have q2 : ¬ o = 2 := by omega
      by_cases h6 : xs.length < l.length
      · have hih := ih l[xs.length] (List.getElem_mem h6) (hc _ (List.getElem_mem h6)) (left := left - 1) (by omega) (by omega)
        rw [shapeL_step h6] at hj
        by_cases hi0 : xs.length = 0
        · have : xs = [] := List.length_eq_zero_iff.1 hi0
          subst this
          simp at h6 hih hj
          simp [h6, grown_zero, grownS_zero, setOb, List.filter_cons]
          rw [wrap64 (by omega) (by omega)]
          refine callK_rel hih (by simp [toD_cells]) ?_
          intro r hr
          cases hs : shapeT l[0] (left - 1) with
          | none =>
            rw [hs] at hr hj
            simp at hj
            obtain ⟨k', d', rfl⟩ := hr
            simp [setOb, List.filter_cons, hj, shapeR]
          | some x =>
            rw [hs] at hr hj
            simp only [shapeR] at hr
            subst hr
            simp
            repeat simp (disch := omega) [setOb, List.filter_cons, if_neg, if_pos, wrap64]
            refine ⟨(6, [x]), ⟨by simp; omega, by dsimp only; omega, ?_⟩, by simp; omega, ?_⟩
            · rw [hj]; simp; cases shapeL l.tail (left - 1) <;> rfl
            · refine weak_obs ?_ (by simp [grown_pos, grownS_pos]) (by repeat (first | exact sin_empty | refine sin_set (by simp) ?_)) ?_
              · repeat (first | exact sub_empty | refine sub_set (by simp) ?_)
              · simp [grown_pos, grownS_pos]
                exact fun y hy => tcells_within _ y hy
        · simp (disch := omega) [h6, grown_pos hi0, grownS_pos hi0, setOb, List.filter_cons, Nat.max_eq_right, Nat.max_eq_left, if_neg, if_pos]
          rw [wrap64 (by omega) (by omega)]
          refine callK_rel hih (by simp [toD_cells]) ?_
          intro r hr
          cases hs : shapeT l[xs.length] (left - 1) with
          | none =>
            rw [hs] at hr hj
            simp at hj
            obtain ⟨k', d', rfl⟩ := hr
            simp (disch := omega) [setOb, List.filter_cons, Nat.max_eq_right, Nat.max_eq_left, if_neg, if_pos, hj, shapeR]
            have hg : ∀ σ : Sto, E.look σ o = some ⟨.own, 2, xs.map fun x => x.cells⟩ → toD σ 10 (.ref o 0 xs.length) = some (.dat (xs.map fun x => x.cells)) := by
              intro σ hσ
              rw [← grown_pos hi0]
              exact toD_grown (k := 9) (fun _ => hσ) (by simp) (by simp) (by simp) (fun r hr => by simp at hr; obtain ⟨x, _, rfl⟩ := hr; exact toD_tcells _ _ _)
            rw [hg _ (by simp; rw [if_neg (by omega), if_neg (by omega), if_neg (by omega)])]
            simp
          | some x =>
            rw [hs] at hr hj
            simp only [shapeR] at hr
            subst hr
            simp
            repeat simp (disch := omega) [setOb, List.filter_cons, Nat.max_eq_right, Nat.max_eq_left, if_neg, if_pos, wrap64]
            refine ⟨(o + 4, xs ++ [x]), ⟨by simp; omega, by dsimp only; omega, ?_⟩, by simp; omega, ?_⟩
            · rw [hj]; simp; cases shapeL (List.drop (xs.length + 1) l) (left - 1) <;> simp
            · refine weak_obs ?_ (by simp [grown_pos, grownS_pos, q0, q1, q2]) (by repeat (first | exact sin_empty | refine sin_set (by simp) ?_)) ?_
              · repeat (first | exact sub_empty | refine sub_set (by simp) ?_)
              · simp [grown_pos, grownS_pos]
                intro a ha y hy
                rcases ha with ⟨a, _, rfl⟩ | rfl <;> exact tcells_within _ y hy
      · have hil : xs.length = l.length := by omega
        rw [shapeL_end (by omega)] at hj
        simp at hj
        simp [h6, hj, toD_frz]
        rw [toD_grown (st := .own) (es := 2) (l := xs.map fun x => x.cells) (k := 9) (fun h => ?_) (by simp) (by simp) (by simp) (fun r hr => ?_)]
        · simp [tcells_mk, shapeR]
        · simp [grownS_pos h]; rw [if_neg (by omega), if_neg (by omega), if_neg (by omega)]
        · simp at hr
          obtain ⟨x, _, rfl⟩ := hr
          exact toD_tcells _ _ _
    have h3' : (k = 3 ∧ n = 0 ∧ 2 ≤ l.length ∧ l.length ≤ 4) = False := by simpa using h3
    simp only [h3', if_false]
    by_cases h4 : k = 4 ∧ n = 0 ∧ l.length ≤ 32
    · simp only [h4, and_self, if_true]
      obtain ⟨rfl, rfl, h5⟩ := h4
      have h5' : (l.length : Int) ≤ 32 := by omega
      simp [cells_mk, setOb, List.filter_cons, h0, h5', h5]
      refine wm_loop (fun g : Nat × Ty => (((((((Sl.empty.set 100 (.int .i64 g.1)).set 99 (.int .i64 l.length)).set 98 (tl l)).set 11 (.ptr 3 0 0)).set 6 (.ptr 2 0 0)).set 4 (.ptr 1 0 0)).set 1 (.int .i64 left), [(1, ⟨.own, 2, [[.int .i64 0, .nils]]⟩), (2, ⟨.own, 2, [[.int .i64 4, .nils]]⟩), (3, ⟨.own, 2, [if g.1 = 0 then [.int .i64 0, .nils] else g.2.cells]⟩)]))
        (fun g => g.1 ≤ l.length ∧ g.2.Ok ∧ (g.1 = 0 → g.2 = .mk 0 []) ∧ foldS (.mk 0 []) l (left - 1) = foldS g.2 (l.drop g.1) (left - 1)) (fun g => l.length - g.1) (0, .mk 0 []) ⟨by simp, .mk (by simp) (by simp), by simp, by simp⟩ ?_ ?_
      · refine weak_obs ?_ (by simp) (by repeat (first | exact sin_empty | refine sin_set (by simp) ?_)) (by simp)
        repeat (first | exact sub_empty | refine sub_set (by simp) ?_)
      rintro ⟨i, acc⟩ ⟨hi, hok, hz, hj⟩
      dsimp only at hi hok hz hj
      have hcl : (if i = 0 then [V.int .i64 0, .nils] else acc.cells).length = 2 := by split <;> simp
      have hct : (if i = 0 then [V.int .i64 0, .nils] else acc.cells).take 2 = (if i = 0 then [V.int .i64 0, .nils] else acc.cells) := List.take_of_length_le (by omega)
      have hcd : (if i = 0 then [V.int .i64 0, .nils] else acc.cells).drop 2 = [] := List.drop_eq_nil_of_le (by omega)
      have hcD : ∀ (σ : Sto) (n : Nat), mapO (toD σ (n + 1)) (if i = 0 then [V.int .i64 0, .nils] else acc.cells) = some acc.cells := by
        intro σ n
        by_cases e : i = 0
        · rw [if_pos e, hz e, tcells_mk]; rfl
        · rw [if_neg e]; exact toD_tcells _ _ _
      have hcR : ∀ (σ : Sto) (n : Nat), (if i = 0 then [V.int .i64 0, .nils] else acc.cells).flatMap (rch σ n) = [] := by
        intro σ n
        by_cases e : i = 0
        · rw [if_pos e]; simp
        · rw [if_neg e]; simp
      by_cases h6 : i < l.length
      · have hih := ih l[i] (List.getElem_mem h6) (hc _ (List.getElem_mem h6)) (left := left - 1) (by omega) (by omega)
        rw [foldS_step h6] at hj
        simp [h6]
        generalize (if i = 0 then [V.int .i64 0, .nils] else acc.cells) = C at *
        simp [setOb, List.filter_cons]
        rw [wrap64 (by omega) (by omega)]
        refine callK_rel hih (by simp [toD_cells]) ?_
        intro r hr
        cases hs : shapeT l[i] (left - 1) with
        | none =>
          rw [hs] at hr hj
          simp at hj
          obtain ⟨k', d', rfl⟩ := hr
          simp [setOb, List.filter_cons, hj, shapeR]
        | some x =>
          rw [hs] at hr hj
          dsimp only at hj
          simp only [shapeR] at hr
          subst hr
          have hxok := shapeT_ok hs
          simp [setOb, List.filter_cons, hcl, hct, hcd]
          refine callK_of (value_join hok hxok) (by simp [toD_tcells, hcD]) ?_
          unfold joinV
          cases hjn : joinT acc x with
          | none =>
            rw [hjn] at hj
            simp at hj
            simp [setOb, List.filter_cons, hj, shapeR, hcR, hcl]
          | some y =>
            rw [hjn] at hj
            simp at hj
            have hyok := joinT_ok hok hxok hjn
            simp [setOb, List.filter_cons, hcR, hcl]
            rw [wrap64 (by omega) (by omega)]
            refine ⟨(i + 1, y), ⟨by dsimp only; omega, hyok, by simp, hj⟩, by dsimp only; omega, ?_⟩
            refine weak_obs ?_ (by simp; omega) (by repeat (first | exact sin_empty | refine sin_set (by simp) ?_)) ?_
            · repeat (first | exact sub_empty | refine sub_set (by simp) ?_)
            · simp
              exact fun z hz => tcells_within _ z hz
      · have hil : i = l.length := by omega
        rw [foldS_end (by omega)] at hj
        simp [h6, hj]
        generalize (if i = 0 then [V.int .i64 0, .nils] else acc.cells) = C at *
        simp [hcl, hct, hcd, setOb, List.filter_cons]
        have e : ∀ σ : Sto, E.look σ 4 = some ⟨.own, 2, [C]⟩ → toD σ 10 (.ref 4 0 1) = some (.dat [acc.cells]) := by
          intro σ hσ
          show (match getOb σ 4 with | some x => if 0 + 1 ≤ x.cells.length ∧ x.es ≠ 0 then (mapO (mapO (toD σ 9)) ((x.cells.drop 0).take 1)).map V.dat else none | none => none) = _
          simp [getOb, hσ, hcD]
        rw [e _ (by simp)]
        simp [shapeR, tcells_mk]
    · have h4' : (k = 4 ∧ n = 0 ∧ l.length ≤ 32) = False := by simpa using h4
      simp only [h4', if_false]
      have e3 : (k = 3 → n = 0 → (2 : Int) ≤ l.length → ¬ (l.length : Int) ≤ 4) := fun a b c d => h3 ⟨a, b, by omega, by omega⟩
      have e4 : (k = 4 → n = 0 → ¬ (l.length : Int) ≤ 32) := fun a b c => h4 ⟨a, b, by omega⟩
      by_cases k3 : k = 3
      · subst k3
        by_cases n0 : n = 0
        · subst n0
          by_cases l2 : (2 : Int) ≤ l.length
          · have l4 := e3 rfl rfl l2
            have l4' : (4 : Int) < l.length := by omega
            simp [cells_mk, setOb, List.filter_cons, h0, l2, l4, l4', shapeR]
          · have l2' : (l.length : Int) < 2 := by omega
            simp [cells_mk, setOb, List.filter_cons, h0, l2, l2', shapeR]
        · simp [cells_mk, setOb, List.filter_cons, h0, n0, shapeR]
      · by_cases k4 : k = 4
        · subst k4
          by_cases n0 : n = 0
          · subst n0
            have l3 := e4 rfl rfl
            have l3' : (32 : Int) < l.length := by omega
            simp [cells_mk, setOb, List.filter_cons, h0, l3, l3', shapeR]
          · simp [cells_mk, setOb, List.filter_cons, h0, n0, shapeR]
        · simp [cells_mk, setOb, List.filter_cons, h0, h1a, h1b, k3, k4, shapeR]
end Go.Proofs.YtnneehniendnfaaGreat

/- Values, by contract: the document's types of them. -/
namespace Go.Proofs.YtnneehniendnfaaGreat
open Go Go.Proofs Go.Proofs.YtnneehniendnfaaGreat.E
set_option linter.unusedSimpArgs false
set_option linter.unusedVariables false

theorem ref03_of {k n : Int} {l : List Tr} (hk : k = 1 ∨ k = 2) : CallD Tryz.prog F.ref03_of [.agg [.int .i64 k, .dat []], .agg (Tr.mk k n l).cells] (· = .bool (leafOK k n l)) := by
  refine callD_by F.ref03_of_ok ?_
  unfold F.ref03_of_c leafOK
  have hle : ((l.length : Int) = 0) ↔ l = [] := by rw [← List.length_eq_zero_iff]; omega
  by_cases hl : l = []
  · subst hl
    rcases hk with rfl | rfl
    · by_cases h0 : n = 0
      · simp [cells_mk, setOb, List.filter_cons, h0]
      · by_cases h1 : n = 1
        · simp [cells_mk, setOb, List.filter_cons, h1]
        · simp [cells_mk, setOb, List.filter_cons, h0, h1]
    · by_cases h0 : -2147483648 ≤ n
      · by_cases h1 : n ≤ 2147483647
        · simp [cells_mk, setOb, List.filter_cons, h0, h1]
        · simp [cells_mk, setOb, List.filter_cons, h0, h1]
      · simp [cells_mk, setOb, List.filter_cons, h0]
  · rcases hk with rfl | rfl <;> simp [cells_mk, setOb, List.filter_cons, hl]

set_option maxHeartbeats 4000000 in
theorem ref03_open : ∀ {a : Tr}, a.Ok → cntT a ≤ 1000 → ∀ {left : Int}, 0 ≤ left → left ≤ 40 → CallD Tryz.prog F.ref03_open [.agg a.cells, .int .i64 (41 - left)] (shapeR (openT a left)) := by
  intro a
  induction a using Tr.ind with
  | h k n l ih =>
    intro ha hcn left hl0 hl1
    rw [cntT_mk] at hcn
    have hlen := cntL_len l
    cases ha with
    | mk hk hn hl hc =>
    refine callD_by F.ref03_open_ok ?_
    unfold F.ref03_open_c
    rw [openT_mk]
    by_cases h0 : left < 1
    · have h0' : (40 : Int) < 41 - left := by omega
      simp [cells_mk, setOb, List.filter_cons, h0, h0', shapeR]
    have h0' : ¬ (40 : Int) < 41 - left := by omega
    simp only [h0, if_false]
    by_cases h1 : k = 1 ∨ k = 2
    · have hh := ref03_of (n := n) (l := l) h1
      simp only [cells_mk] at hh
      simp only [h1, if_true]
      rcases h1 with rfl | rfl
      · simp [cells_mk, setOb, List.filter_cons, h0']
        refine callFK_of hh (by simp) ?_
        cases leafOK 1 n l <;> simp [setOb, List.filter_cons, shapeR, tcells_mk]
      · simp [cells_mk, setOb, List.filter_cons, h0']
        refine callFK_of hh (by simp) ?_
        cases leafOK 2 n l <;> simp [setOb, List.filter_cons, shapeR, tcells_mk]
    have h1a : ¬ k = 1 := fun h => h1 (.inl h)
    have h1b : ¬ k = 2 := fun h => h1 (.inr h)
    simp only [h1, if_false]
    have kid : ∀ i (h : i < l.length), CallD Tryz.prog F.ref03_open [.agg l[i].cells, .int .i64 (41 - left + 1)] (shapeR (openT l[i] (left - 1))) := by
      intro i h
      have := ih l[i] (List.getElem_mem h) (hc _ (List.getElem_mem h)) (by have := cntT_le (List.getElem_mem h); omega) (left := left - 1) (by omega) (by omega)
      rwa [show (41 : Int) - (left - 1) = 41 - left + 1 from by omega] at this
    by_cases h3 : k = 3
    · subst h3
      simp [cells_mk, setOb, List.filter_cons, h0']
      refine wm_loop (fun g : Nat × List Ty => (((((Sl.empty.set 8 (.int .i64 g.2.length)).set 7 (.ptr 2 0 0)).set 4 (.ptr 1 0 0)).set 2 (.ptr 0 0 0)).set 1 (.int .i64 (41 - left)), [(0, ⟨.own, 3, [[.int .i64 3, .int .i64 n, tl l]]⟩), (1, ⟨.own, 2, [[.int .i64 0, .nils]]⟩), (2, ⟨.own, 2, [[.int .i64 3, grown g.1 g.2.length]]⟩)] ++ grownS g.1 2 g.2.length (g.2.map fun x => x.cells)))
        (fun g => g.2.length ≤ l.length ∧ 2 < g.1 ∧ openL l (left - 1) = (openL (l.drop g.2.length) (left - 1)).map (g.2 ++ ·)) (fun g => l.length - g.2.length) (3, []) ⟨by simp, by simp, by simp⟩ ?_ ?_
      · refine weak_obs ?_ (by simp [grown_zero, grownS_zero]) (by repeat (first | exact sin_empty | refine sin_set (by simp) ?_)) (by simp [grown_zero, grownS_zero])
        repeat (first | exact sub_empty | refine sub_set (by simp) ?_)
      rintro ⟨o, xs⟩ ⟨hi, ho, hj⟩
      dsimp only at hi ho hj
      have q0 : ¬ o = 0 := by omega
      have q1 : ¬ o = 1 := by omega
      have q2 : ¬ o = 2 := by omega
      by_cases h6 : xs.length < l.length
      · have hih := kid xs.length h6
        rw [openL_step h6] at hj
        by_cases hi0 : xs.length = 0
        · have : xs = [] := List.length_eq_zero_iff.1 hi0
          subst this
          simp at h6 hih hj
          simp [h6, grown_zero, grownS_zero, setOb, List.filter_cons]
          rw [wrap64 (by omega) (by omega)]
          refine callK_rel hih (by simp [toD_cells]) ?_
          intro r hr
          cases hs : openT l[0] (left - 1) with
          | none =>
            rw [hs] at hr hj
            simp at hj
            obtain ⟨k', d', rfl⟩ := hr
            simp [setOb, List.filter_cons, hj, shapeR]
          | some x =>
            rw [hs] at hr hj
            simp only [shapeR] at hr
            subst hr
            simp
            repeat simp (disch := omega) [setOb, List.filter_cons, if_neg, if_pos, wrap64]
            refine ⟨(5, [x]), ⟨by simp; omega, by dsimp only; omega, ?_⟩, by simp; omega, ?_⟩
            · rw [hj]; simp; cases openL l.tail (left - 1) <;> rfl
            · refine weak_obs ?_ (by simp [grown_pos, grownS_pos]) (by repeat (first | exact sin_empty | refine sin_set (by simp) ?_)) ?_
              · repeat (first | exact sub_empty | refine sub_set (by simp) ?_)
              · simp [grown_pos, grownS_pos]
                exact fun y hy => tcells_within _ y hy
        · simp (disch := omega) [h6, grown_pos hi0, grownS_pos hi0, setOb, List.filter_cons, Nat.max_eq_right, Nat.max_eq_left, if_neg, if_pos]
          rw [wrap64 (by omega) (by omega)]
          refine callK_rel hih (by simp [toD_cells]) ?_
          intro r hr
          cases hs : openT l[xs.length] (left - 1) with
          | none =>
            rw [hs] at hr hj
            simp at hj
            obtain ⟨k', d', rfl⟩ := hr
            simp (disch := omega) [setOb, List.filter_cons, Nat.max_eq_right, Nat.max_eq_left, if_neg, if_pos, hj, shapeR]
          | some x =>
            rw [hs] at hr hj
            simp only [shapeR] at hr
            subst hr
            simp
            repeat simp (disch := omega) [setOb, List.filter_cons, Nat.max_eq_right, Nat.max_eq_left, if_neg, if_pos, wrap64]
            refine ⟨(o + 3, xs ++ [x]), ⟨by simp; omega, by dsimp only; omega, ?_⟩, by simp; omega, ?_⟩
            · rw [hj]; simp; cases openL (List.drop (xs.length + 1) l) (left - 1) <;> simp
            · refine weak_obs ?_ (by simp [grown_pos, grownS_pos, q0, q1, q2]) (by repeat (first | exact sin_empty | refine sin_set (by simp) ?_)) ?_
              · repeat (first | exact sub_empty | refine sub_set (by simp) ?_)
              · simp [grown_pos, grownS_pos]
                intro a ha y hy
                rcases ha with ⟨a, _, rfl⟩ | rfl <;> exact tcells_within _ y hy
      · have hil : xs.length = l.length := by omega
        rw [openL_end (by omega)] at hj
        simp at hj
        have hg : ∀ σ : Sto, (xs.length ≠ 0 → E.look σ o = some ⟨.own, 2, xs.map fun x => x.cells⟩) → toD σ 10 (grown o xs.length) = some (.dat (xs.map fun x => x.cells)) := by
          intro σ hσ
          exact toD_grown (k := 9) hσ (by simp) (by simp) (by simp) (fun r hr => by simp at hr; obtain ⟨x, _, rfl⟩ := hr; exact toD_tcells _ _ _)
        have hofs : ∀ (S : Sl), (S 73 = some (.tup []) ∨ S 73 = some (.ptr 0 0 2)) → True := fun _ _ => trivial
        have m0 : (l.length : Int) = xs.length := by omega
        by_cases n0 : n = 0
        · subst n0
          by_cases l2 : 2 ≤ l.length
          · have l2' : (2 : Int) ≤ l.length := by omega
            by_cases l4 : l.length ≤ 4
            · have l4' : (l.length : Int) ≤ 4 := by omega
              simp [h6, hj, l2, l4, l2', l4', offs, V.off, setOb, List.filter_cons]
              rw [hg _ (fun h => by simp (disch := omega) [grownS_pos h, List.filter_cons, q0, q1, q2, if_neg])]
              simp [shapeR, tcells_mk]
            · have l4' : ¬ (l.length : Int) ≤ 4 := by omega
              simp [h6, hj, l2, l4, l2', l4', offs, V.off, setOb, List.filter_cons]
              rw [hg _ (fun h => by simp (disch := omega) [grownS_pos h, List.filter_cons, q0, q1, q2, if_neg])]
              simp [shapeR, tcells_mk]
          · have l2' : ¬ (2 : Int) ≤ l.length := by omega
            simp [h6, hj, l2, l2', offs, V.off, setOb, List.filter_cons]
            rw [hg _ (fun h => by simp (disch := omega) [grownS_pos h, List.filter_cons, q0, q1, q2, if_neg])]
            simp [shapeR, tcells_mk]
        · simp [h6, hj, n0, offs, V.off, setOb, List.filter_cons]
          rw [hg _ (fun h => by simp (disch := omega) [grownS_pos h, List.filter_cons, q0, q1, q2, if_neg])]
          simp [shapeR, tcells_mk]
    have h3' : (k = 3 ∧ n = 0 ∧ 2 ≤ l.length ∧ l.length ≤ 4) = False := by simp [h3]
    simp only [h3', if_false]
    by_cases h4 : ¬ k = 4
    · have h4' : (k = 4 ∧ n = 0 ∧ l.length ≤ 32 ∧ left ≠ 1) = False := by simp [h4]
      simp only [h4', if_false]
      simp [cells_mk, setOb, List.filter_cons, h0', h1a, h1b, h3, h4, shapeR]
    have h4 : k = 4 := by omega
    subst h4
    by_cases n0 : ¬ n = 0
    · simp [cells_mk, setOb, List.filter_cons, h0', n0, shapeR]
    have n0 : n = 0 := by omega
    subst n0
    by_cases h5 : ¬ l.length ≤ 32
    · have h5' : (32 : Int) < l.length := by omega
      simp [cells_mk, setOb, List.filter_cons, h0', h5, h5', shapeR]
    have h5 : l.length ≤ 32 := by omega
    have h5' : ¬ (32 : Int) < l.length := by omega
    by_cases hl1' : left = 1
    · subst hl1'
      simp [cells_mk, setOb, List.filter_cons, h5, h5', shapeR]
    have hl1'' : ¬ (41 - left = 40) := by omega
    simp [cells_mk, setOb, List.filter_cons, h0', h5, h5', hl1', hl1'']
    refine wm_loop (fun g : Nat × Ty => (((((Sl.empty.set 12 (.int .i64 g.1)).set 11 (.ptr 2 0 0)).set 4 (.ptr 1 0 0)).set 2 (.ptr 0 0 0)).set 1 (.int .i64 (41 - left)), [(0, ⟨.own, 3, [[.int .i64 4, .int .i64 0, tl l]]⟩), (1, ⟨.own, 2, [[.int .i64 0, .nils]]⟩), (2, ⟨.own, 2, [if g.1 = 0 then [.int .i64 0, .nils] else g.2.cells]⟩)]))
      (fun g => g.1 ≤ l.length ∧ g.2.Ok ∧ (g.1 = 0 → g.2 = .mk 0 []) ∧ foldO (.mk 0 []) l (left - 1) = foldO g.2 (l.drop g.1) (left - 1)) (fun g => l.length - g.1) (0, .mk 0 []) ⟨by simp, .mk (by simp) (by simp), by simp, by simp⟩ ?_ ?_
    · refine weak_obs ?_ (by simp) (by repeat (first | exact sin_empty | refine sin_set (by simp) ?_)) (by simp)
      repeat (first | exact sub_empty | refine sub_set (by simp) ?_)
    rintro ⟨i, acc⟩ ⟨hi, hok, hz, hj⟩
    dsimp only at hi hok hz hj
    have hcl : (if i = 0 then [V.int .i64 0, .nils] else acc.cells).length = 2 := by split <;> simp
    have hct : (if i = 0 then [V.int .i64 0, .nils] else acc.cells).take 2 = (if i = 0 then [V.int .i64 0, .nils] else acc.cells) := List.take_of_length_le (by omega)
    have hcd : (if i = 0 then [V.int .i64 0, .nils] else acc.cells).drop 2 = [] := List.drop_eq_nil_of_le (by omega)
    have hcD : ∀ (σ : Sto) (n : Nat), mapO (toD σ (n + 1)) (if i = 0 then [V.int .i64 0, .nils] else acc.cells) = some acc.cells := by
      intro σ n
      by_cases e : i = 0
      · rw [if_pos e, hz e, tcells_mk]; rfl
      · rw [if_neg e]; exact toD_tcells _ _ _
    have hcR : ∀ (σ : Sto) (n : Nat), (if i = 0 then [V.int .i64 0, .nils] else acc.cells).flatMap (rch σ n) = [] := by
      intro σ n
      by_cases e : i = 0
      · rw [if_pos e]; simp
      · rw [if_neg e]; simp
    have hcW : ∀ {p : Nat → Bool}, ∀ y ∈ (if i = 0 then [V.int .i64 0, .nils] else acc.cells), y.within p = true := by
      intro p y hy
      by_cases e : i = 0
      · rw [if_pos e] at hy; simp at hy; rcases hy with rfl | rfl <;> simp
      · rw [if_neg e] at hy; exact tcells_within _ y hy
    by_cases h6 : i < l.length
    · have hih := kid i h6
      rw [foldO_step h6] at hj
      simp [h6]
      generalize (if i = 0 then [V.int .i64 0, .nils] else acc.cells) = C at *
      rw [wrap64 (by omega) (by omega)]
      refine callK_rel hih (by simp [toD_cells]) ?_
      intro r hr
      cases hs : openT l[i] (left - 1) with
      | none =>
        rw [hs] at hr hj
        simp at hj
        obtain ⟨k', d', rfl⟩ := hr
        simp [setOb, List.filter_cons, hj, shapeR]
      | some x =>
        rw [hs] at hr hj
        dsimp only at hj
        simp only [shapeR] at hr
        subst hr
        have hxok := openT_ok hs
        simp [setOb, List.filter_cons, hcl, hct, hcd]
        refine callK_of (ref03_meet hok hxok) (by simp [toD_tcells, hcD]) ?_
        unfold meetV
        cases hjn : joinT acc x with
        | none =>
          rw [hjn] at hj
          simp at hj
          simp [setOb, List.filter_cons, hj, shapeR, hcR, hcl]
        | some y =>
          rw [hjn] at hj
          simp at hj
          have hyok := joinT_ok hok hxok hjn
          simp [setOb, List.filter_cons, hcR, hcl]
          rw [wrap64 (by omega) (by omega)]
          refine ⟨(i + 1, y), ⟨by dsimp only; omega, hyok, by simp, hj⟩, by dsimp only; omega, ?_⟩
          refine weak_obs ?_ (by simp; omega) (by repeat (first | exact sin_empty | refine sin_set (by simp) ?_)) ?_
          · repeat (first | exact sub_empty | refine sub_set (by simp) ?_)
          · simp
            exact fun z hz => tcells_within _ z hz
    · have hil : i = l.length := by omega
      rw [foldO_end (by omega)] at hj
      simp [h6, hj]
      generalize (if i = 0 then [V.int .i64 0, .nils] else acc.cells) = C at *
      simp [hcl, hct, hcd, setOb, List.filter_cons]
      have e : ∀ σ : Sto, E.look σ 3 = some ⟨.own, 2, [C]⟩ → toD σ 10 (.ref 3 0 1) = some (.dat [acc.cells]) := by
        intro σ hσ
        show (match getOb σ 3 with | some x => if 0 + 1 ≤ x.cells.length ∧ x.es ≠ 0 then (mapO (mapO (toD σ 9)) ((x.cells.drop 0).take 1)).map V.dat else none | none => none) = _
        simp [getOb, hσ, hcD]
      rw [e _ (by simp)]
      simp [shapeR, tcells_mk]

theorem ref03_Right {a : Tr} (ha : a.Ok) : CallD Tryz.prog F.ref03_Right [.agg a.cells] (· = .bool (rightT a)) := by
  refine callD_by F.ref03_Right_ok ?_
  unfold F.ref03_Right_c rightT
  simp [setOb, List.filter_cons]
  refine callK_of (ref03_Size ha) (by simp [toD_cells]) ?_
  by_cases h : cntT a ≤ 1000
  · have h1 : ¬ (1000 : Int) < min (cntT a : Int) 1001 := by omega
    have ho := ref03_open ha h (left := 40) (by omega) (by omega)
    simp [h, h1]
    refine callK_rel ho (by simp [toD_cells]) ?_
    intro r hr
    cases hs : openT a 40 with
    | none =>
      rw [hs] at hr
      obtain ⟨k', d', rfl⟩ := hr
      simp [setOb, List.filter_cons]
    | some x =>
      rw [hs] at hr
      simp only [shapeR] at hr
      subst hr
      simp [setOb, List.filter_cons]
  · have h1 : (1000 : Int) < min (cntT a : Int) 1001 := by omega
    simp [h, h1]
end Go.Proofs.YtnneehniendnfaaGreat

/- Values, by contract: which are right. -/
namespace Go.Proofs.YtnneehniendnfaaGreat
open Go Go.Proofs Go.Proofs.YtnneehniendnfaaGreat.E
set_option linter.unusedSimpArgs false
set_option linter.unusedVariables false

theorem value_Right {a : Tr} (ha : a.Ok) : CallD Tryz.prog F.value_Right [.agg a.cells] (· = .bool (rightT a)) := by
  refine callD_by F.value_Right_ok ?_
  unfold F.value_Right_c
  rw [rightT_shape]
  simp [setOb, List.filter_cons]
  refine callK_rel (value_shape ha (left := 40) (by omega) (by omega)) (by simp [toD_cells]) ?_
  intro r hr
  cases hs : shapeT a 40 with
  | none =>
    rw [hs] at hr
    obtain ⟨k', d', rfl⟩ := hr
    simp [setOb, List.filter_cons]
  | some x =>
    rw [hs] at hr
    simp only [shapeR] at hr
    subst hr
    have hx := shapeT_ok hs
    simp [setOb, List.filter_cons]
    refine callK_of (value_closed hx) (by simp [toD_tcells]) ?_
    simp
    refine callK_of (value_TypeRight (closedT_ok hx)) (by simp [toD_tcells]) ?_
    cases hd : deepT (closedT x) 40 with
    | false => simp
    | true =>
      simp
      refine callK_of (value_Size ha) (by simp [toD_cells]) ?_
      have : (min (cntT a : Int) 1001 ≤ 1000) ↔ cntT a ≤ 1000 := by omega
      simp [this]
end Go.Proofs.YtnneehniendnfaaGreat
