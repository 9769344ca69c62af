/- Joined texts: CCou5, DQ, DX, CCou6, CCou7, CCou8. -/
import Derived.Test.YtnneehniendnfaaGreatGP
import Derived.Test.YtnneehniendnfaaGreatGG
import Derived.Test.YtnneehniendnfaaGreatGD
import Derived.Test.YtnneehniendnfaaGreatGR
namespace Go.Proofs.YtnneehniendnfaaGreat
open Go Go.Proofs Go.Proofs.YtnneehniendnfaaGreat.E
set_option linter.unusedSimpArgs false
set_option linter.unusedVariables false
def Rise (l : List Part) : Prop := ∀ i j (hi : i < l.length) (hj : j < l.length), i < j → cmpT l[i].v l[j].v < 0
theorem rise_of {l : List Part} (h : rightP l = true) : Rise l := by
  have h1 : ∀ i (hi : i + 1 < l.length), cmpT (l[i]'(by omega)).v l[i + 1].v < 0 := by
    intro i hi
    simp [rightP] at h
    have := h.1.2 (i + 1) hi
    rw [partAt_eq hi] at this
    simp at this
    exact this.2
  intro i j hi hj hij
  induction j with
  | zero => omega
  | succ j ih =>
    by_cases e : i = j
    · subst e; exact h1 i hj
    · exact cmpT_trans (ih (by omega) (by omega)) (h1 j hj)
def plc (l : List Part) (v : Tr) : Int := fidx (fun p => decide (cmpT p.v v = 0)) l
theorem toD_partC (σ : Sto) (n : Nat) (p : Part) : mapO (toD σ (n + 1)) (partC p) = some (partC p) := by
  cases p with
  | mk v w => cases v; simp [partC, cells_mk, Raw.c]
theorem couple_place_1 {p : Part} {v : Tr} (hp : p.v.Ok) (hv : v.Ok) : CallD Tryz.prog F.couple_place_1 [.agg (partC p), .agg v.cells] (· = .int .i64 (cmpT p.v v)) := by
  refine callD_by F.couple_place_1_ok ?_
  unfold F.couple_place_1_c
  simp [setOb, List.filter_cons]
  refine callK_of (value_Compare hp hv) (by simp [toD_cells]) ?_
  simp
theorem search_Part {l : List Part} {v : Tr} (hl : l.length ≤ 1000000) (ho : ∀ p ∈ l, p.v.Ok) (hv : v.Ok) (hr : Rise l) :
    CallD Tryz.prog F.slices_BinarySearchFunc_Part_Part_Value [pl l, .agg v.cells, .clo F.couple_place_1 []] (fun r => ∃ i : Nat, r = .tup [.int .i64 i, .bool (decide (plc l v = i))] ∧ (plc l v = i ∨ plc l v = -1)) := by
  refine callD_by F.slices_BinarySearchFunc_Part_Part_Value_ok ?_
  unfold F.slices_BinarySearchFunc_Part_Part_Value_c
  simp [setOb, List.filter_cons]
  refine wm_loop (fun g : Nat × Nat => ((((((Sl.empty.set 10 (.int .i64 g.2)).set 9 (.int .i64 g.1)).set 8 (.int .i64 l.length)).set 4 (.ptr 0 0 0)).set 2 (.clo F.couple_place_1 [])).set 0 (pl l), [(0, ⟨.own, 3, [v.cells]⟩)]))
    (fun g => g.1 ≤ g.2 ∧ g.2 ≤ l.length ∧ (∀ t (ht : t < l.length), t < g.1 → cmpT l[t].v v < 0) ∧ (∀ t (ht : t < l.length), g.2 ≤ t → 0 ≤ cmpT l[t].v v)) (fun g => g.2 - g.1) (0, l.length) ⟨by simp, by simp, fun t ht h => by simp at h, fun t ht h => by simp at h; omega⟩ ?_ ?_
  · refine weak_obs ?_ (by simp) (by repeat (first | exact sin_empty | refine sin_set (by simp) ?_)) (by simp; exact fun y hy => cells_within _ y hy)
    repeat (first | exact sub_empty | refine sub_set (by simp) ?_)
  rintro ⟨i, j⟩ ⟨h1, h2, h3, h4⟩
  dsimp only at h1 h2 h3 h4
  by_cases h5 : i < j
  · obtain ⟨m, em⟩ : ∃ m : Nat, m = (i + j) / 2 := ⟨_, rfl⟩
    have hm : IntKind.i64.wrap (IntKind.u64.wrap (IntKind.i64.wrap (↑i + ↑j)) / 2) = (m : Int) := by
      rw [wrap64 (x := (i : Int) + j) (by omega) (by omega), wrapU64 (by omega) (by omega), wrap64 (by omega) (by omega)]; omega
    have hml : m < l.length := by omega
    simp [h5, hm, hml]
    refine ⟨_, _, ⟨rfl, rfl⟩, callXK_of (couple_place_1 (ho _ (List.getElem_mem hml)) hv) (by simp [toD_cells, toD_partC]) ?_⟩
    by_cases hc : cmpT l[m].v v < 0
    · simp [hc]
      rw [wrap64 (by omega) (by omega)]
      refine ⟨(m + 1, j), ⟨by dsimp only; omega, h2, fun t ht h => ?_, h4⟩, by dsimp only; omega, ?_⟩
      · by_cases e : t = m
        · subst e; exact hc
        · exact cmpT_trans (hr t m ht hml (by dsimp only at h; omega)) hc
      · refine weak_obs ?_ (by simp) (by repeat (first | exact sin_empty | refine sin_set (by simp) ?_)) (by simp; exact fun y hy => cells_within _ y hy)
        repeat (first | exact sub_empty | refine sub_set (by simp) ?_)
    · simp [hc]
      refine ⟨(i, m), ⟨by dsimp only; omega, by dsimp only; omega, h3, fun t ht h => ?_⟩, by dsimp only; omega, ?_⟩
      · dsimp only at h
        by_cases e : t = m
        · subst e; omega
        · refine Int.not_lt.1 fun hlt => hc (cmpT_trans (hr m t hml ht (by omega)) hlt)
      · refine weak_obs ?_ (by simp) (by repeat (first | exact sin_empty | refine sin_set (by simp) ?_)) (by simp; exact fun y hy => cells_within _ y hy)
        repeat (first | exact sub_empty | refine sub_set (by simp) ?_)
  · have : i = j := by omega
    subst this
    have found : ∀ (h6 : i < l.length), cmpT l[i].v v = 0 → plc l v = i := fun h6 hz => fidx_at h6 (by simp [hz]) (fun j hj hji => by have := h3 j hj hji; simp; omega)
    have miss : (∀ h6 : i < l.length, cmpT l[i].v v ≠ 0) → plc l v = -1 := fun hz => fidx_none fun j hj => by
      have : cmpT l[j].v v ≠ 0 := by
        by_cases e1 : j < i
        · have := h3 j hj e1; omega
        · by_cases e2 : j = i
          · subst e2; exact hz hj
          · intro e0
            rw [cmpT_zero] at e0
            have a1 := h4 i (by omega) (Nat.le_refl _)
            have a2 := hr i j (by omega) hj (by omega)
            rw [e0] at a2
            omega
      simp [this]
    by_cases h6 : i < l.length
    · simp [h6]
      refine ⟨_, _, ⟨rfl, rfl⟩, callXK_of (couple_place_1 (ho _ (List.getElem_mem h6)) hv) (by simp [toD_cells, toD_partC]) ?_⟩
      simp
      refine ⟨i, ⟨rfl, ?_⟩, ?_⟩
      · constructor
        · exact found h6
        · intro h
          refine Classical.byContradiction fun hz => ?_
          rw [miss (fun h' => hz)] at h
          omega
      · by_cases hz : cmpT l[i].v v = 0
        · exact .inl (found h6 hz)
        · exact .inr (miss (fun h' => hz))
    · simp [h6]
      have := miss (fun h' => (h6 h').elim)
      exact ⟨i, ⟨rfl, by omega⟩, .inr this⟩
theorem couple_place {l : List Part} {v : Tr} (hl : l.length ≤ 1000000) (ho : ∀ p ∈ l, p.v.Ok) (hv : v.Ok) (hr : Rise l) : CallD Tryz.prog F.couple_place [pl l, .agg v.cells] (· = .int .i64 (plc l v)) := by
  refine callD_by F.couple_place_ok ?_
  unfold F.couple_place_c
  simp [setOb, List.filter_cons]
  refine callK_rel (search_Part hl ho hv hr) ?_ ?_
  · simp [toD_cells]
    rw [E.toD_clo0]
  rintro r ⟨i, rfl, h⟩
  rcases h with h | h
  · simp [h]
  · have : ¬ plc l v = i := by omega
    simp [this, h]
end Go.Proofs.YtnneehniendnfaaGreat

namespace Go.Proofs.YtnneehniendnfaaGreat
open Go Go.Proofs Go.Proofs.YtnneehniendnfaaGreat.E
set_option linter.unusedSimpArgs false
set_option linter.unusedVariables false
def sumBy {α : Type} (f : α → Rat) (l : List α) : Rat := l.foldl (fun s p => s + f p) 0
section
variable {α β : Type} {f g : α → Rat}
theorem sumBy_nil : sumBy f [] = 0 := rfl
theorem sumBy_snoc (l : List α) (p : α) : sumBy f (l ++ [p]) = sumBy f l + f p := by simp [sumBy, List.foldl_append]
theorem sumBy_take {l : List α} {i : Nat} (h : i < l.length) : sumBy f (l.take (i + 1)) = sumBy f (l.take i) + f l[i] := by
  rw [List.take_succ_eq_append_getElem h, sumBy_snoc]
theorem sumBy_init (l : List α) (s : Rat) : l.foldl (fun s p => s + f p) s = s + sumBy f l := by
  unfold sumBy
  induction l generalizing s with
  | nil => simp [Rat.add_zero]
  | cons a l ih => simp only [List.foldl_cons]; rw [ih, ih (0 + f a), Rat.zero_add, Rat.add_assoc]
theorem sumBy_cons (p : α) (l : List α) : sumBy f (p :: l) = f p + sumBy f l := by
  show (p :: l).foldl (fun s p => s + f p) 0 = _
  rw [List.foldl_cons, sumBy_init, Rat.zero_add]
theorem sumBy_append (l m : List α) : sumBy f (l ++ m) = sumBy f l + sumBy f m := by
  show (l ++ m).foldl (fun s p => s + f p) 0 = _
  rw [List.foldl_append, sumBy_init]; rfl
theorem sumBy_map (h : β → α) (l : List β) : sumBy f (l.map h) = sumBy (fun x => f (h x)) l := by
  induction l with
  | nil => rfl
  | cons a l ih => rw [List.map_cons, sumBy_cons, sumBy_cons, ih]
theorem sumBy_congr {l : List α} (h : ∀ x ∈ l, f x = g x) : sumBy f l = sumBy g l := by
  induction l with
  | nil => rfl
  | cons a l ih => rw [sumBy_cons, sumBy_cons, h a (by simp), ih fun x hx => h x (by simp [hx])]
theorem sumBy_add (l : List α) : sumBy (fun x => f x + g x) l = sumBy f l + sumBy g l := by
  induction l with
  | nil => simp [sumBy_nil, Rat.add_zero]
  | cons a l ih => rw [sumBy_cons, sumBy_cons, sumBy_cons, ih]; grind
theorem sumBy_sub (l : List α) : sumBy (fun x => f x - g x) l = sumBy f l - sumBy g l := by
  induction l with
  | nil => simp [sumBy_nil]; grind
  | cons a l ih => rw [sumBy_cons, sumBy_cons, sumBy_cons, ih]; grind
theorem sumBy_zero (l : List α) : sumBy (fun _ => 0) l = 0 := by
  induction l with
  | nil => rfl
  | cons a l ih => rw [sumBy_cons, ih, Rat.add_zero]
theorem sumBy_le {l : List α} (h : ∀ x ∈ l, f x ≤ g x) : sumBy f l ≤ sumBy g l := by
  induction l with
  | nil => rw [sumBy_nil, sumBy_nil]; grind
  | cons a l ih =>
    rw [sumBy_cons, sumBy_cons]
    have h1 := h a (by simp)
    have h2 := ih fun x hx => h x (by simp [hx])
    grind
theorem sumBy_swap {h : α → β → Rat} (l : List α) (m : List β) : sumBy (fun x => sumBy (fun y => h x y) m) l = sumBy (fun y => sumBy (fun x => h x y) l) m := by
  induction l with
  | nil => simp only [sumBy_nil]; rw [sumBy_zero]
  | cons a l ih =>
    rw [sumBy_cons, ih, ← sumBy_add]
    exact sumBy_congr fun y _ => (sumBy_cons (f := fun x => h x y) a l).symm
theorem sumBy_fits {k : Nat} (l : List α) (h : ∀ x ∈ l, Fits (f x) k) : Fits (sumBy f l) (1 + l.length * (k + 1)) := by
  suffices h2 : ∀ n, n ≤ l.length → Fits (sumBy f (l.take n)) (1 + n * (k + 1)) by
    have := h2 l.length (Nat.le_refl _); rwa [List.take_length] at this
  intro n
  induction n with
  | zero => intro _; simpa [sumBy] using fits_zero
  | succ n ih =>
    intro hn
    rw [sumBy_take (by omega)]
    refine (fits_add (ih (by omega)) (h _ (List.getElem_mem (by omega)))).mono ?_
    rw [Nat.succ_mul]; omega
end
theorem sumQ_by (l : List Part) : sumQ l = sumBy (fun p => p.w.q) l := rfl
def wtQ (l : List Part) (v : Tr) : Rat := match l.find? (fun p => decide (cmpT p.v v = 0)) with
  | some p => p.w.q
  | none => 0
theorem wtQ_cons (p : Part) (l : List Part) (v : Tr) : wtQ (p :: l) v = if p.v = v then p.w.q else wtQ l v := by
  unfold wtQ
  rw [List.find?_cons]
  by_cases h : p.v = v
  · simp [h, cmpT_self]
  · simp [h, cmpT_zero]
theorem wtQ_none {l : List Part} {v : Tr} (h : ∀ p ∈ l, p.v ≠ v) : wtQ l v = 0 := by
  induction l with
  | nil => rfl
  | cons p l ih => rw [wtQ_cons, if_neg (h p (by simp)), ih fun q hq => h q (by simp [hq])]
theorem plc_none {l : List Part} {v : Tr} (h : plc l v = -1) : ∀ p ∈ l, p.v ≠ v := by
  intro p hp e
  unfold plc fidx at h
  split at h
  · omega
  · rename_i h0
    rw [List.findIdx?_eq_none_iff] at h0
    have := h0 p hp
    simp [e, cmpT_self] at this
theorem plc_some {l : List Part} {v : Tr} {i : Nat} (h : plc l v = i) : ∃ hi : i < l.length, l[i].v = v ∧ wtQ l v = l[i].w.q := by
  unfold plc fidx at h
  split at h
  · rename_i j h0
    have : j = i := by omega
    subst this
    have h1 := h0
    rw [List.findIdx?_eq_some_iff_getElem] at h0
    obtain ⟨hi, h2, h3⟩ := h0
    have e : l[j].v = v := by simpa [cmpT_zero] using h2
    refine ⟨hi, e, ?_⟩
    have : l.find? (fun p => decide (cmpT p.v v = 0)) = some l[j] := by
      rw [List.find?_eq_some_iff_getElem]
      exact ⟨h2, j, hi, rfl, fun k hk => by simpa using h3 k hk⟩
    unfold wtQ; rw [this]
  · omega
theorem plc_cases (l : List Part) (v : Tr) : (∃ i : Nat, plc l v = i) ∨ plc l v = -1 := by
  unfold plc fidx
  split
  · exact .inl ⟨_, rfl⟩
  · exact .inr rfl
def Norm (l : List Part) : Prop := ∀ p ∈ l, p.w = rawOf p.w.q
structure Good (l : List Part) : Prop where
  ok : ∀ p ∈ l, p.Ok 1000000
  le : l.length ≤ 60
  ne : l ≠ []
  norm : Norm l
  pos : ∀ p ∈ l, 0 < p.w.q
  rise : Rise l
  one : sumQ l = 1
theorem good_of {l : List Part} (h : rightP l = true) (ho : ∀ p ∈ l, p.Ok 1000000) : Good l := by
  have hr := rise_of h
  have h0 := h
  simp [rightP] at h
  have hat : ∀ i (hi : i < l.length), l[i].w.right = true ∧ 0 < l[i].w.q := by
    intro i hi
    have := h.1.2 i hi
    rw [partAt_eq hi] at this
    simp at this
    exact ⟨this.1.1.2, this.1.2⟩
  refine ⟨ho, h.1.1, ?_, ?_, ?_, hr, h.2⟩
  · rintro rfl; simp [rightP, sumQ] at h0
  · intro p hp
    obtain ⟨i, hi, rfl⟩ := List.getElem_of_mem hp
    exact (Raw.right_iff (ho _ (List.getElem_mem hi)).w).1 (hat i hi).1
  · intro p hp
    obtain ⟨i, hi, rfl⟩ := List.getElem_of_mem hp
    exact (hat i hi).2
theorem Good.nn {l : List Part} (h : Good l) {p : Part} (hp : p ∈ l) : p.w.neg = false := by
  rw [h.norm p hp]
  show decide (p.w.q < 0) = false
  have := h.pos p hp
  exact decide_eq_false (by grind)
theorem wtQ_fits {l : List Part} (ho : ∀ p ∈ l, p.Ok 1000000) (v : Tr) : Fits (wtQ l v) 1000000 := by
  unfold wtQ
  split
  · rename_i p h
    exact Raw.fits (ho p (List.mem_of_find?_eq_some h)).w (by omega)
  · exact fits_zero.mono (by omega)
def posR (r : Rat) : Rat := if r < 0 then 0 else r
def apartQ (a b : List Part) : Rat := sumBy (fun p => posR (p.w.q - wtQ b p.v)) a
theorem posR_fits {r : Rat} {k : Nat} (h : Fits r k) (h1 : 1 ≤ k) : Fits (posR r) k := by
  unfold posR; split
  · exact fits_zero.mono h1
  · exact h
end Go.Proofs.YtnneehniendnfaaGreat

namespace Go.Proofs.YtnneehniendnfaaGreat
open Go Go.Proofs Go.Proofs.YtnneehniendnfaaGreat.E
set_option linter.unusedSimpArgs false
set_option linter.unusedVariables false
def Dist (l : List Part) : Prop := (l.map (·.v)).Nodup
theorem dist_of {l : List Part} (h : Rise l) : Dist l := by
  unfold Dist List.Nodup
  rw [List.pairwise_map, List.pairwise_iff_getElem]
  intro i j hi hj hij e
  have := h i j hi hj hij
  rw [e, cmpT_self] at this
  omega
end Go.Proofs.YtnneehniendnfaaGreat

namespace Go.Proofs.YtnneehniendnfaaGreat
open Go Go.Proofs Go.Proofs.YtnneehniendnfaaGreat.E
set_option linter.unusedSimpArgs false
set_option linter.unusedVariables false
theorem rawc_0 (x : Raw) : x.c[0]? = some (.bool x.neg) := (rfl)
def apartV (a b : List Part) : V := if rightP a && rightP b then .tup [ratV (apartQ a b), .int .i64 0] else .tup [.agg [.bool false, .dat [], .dat []], .int .i64 1]
theorem apartV_good {a b : List Part} (ha : rightP a = true) (hb : rightP b = true) : apartV a b = .tup [ratV (apartQ a b), .int .i64 0] := by unfold apartV; rw [ha, hb]; rfl
theorem apart_fits {a b : List Part} (ga : Good a) (gb : Good b) {n : Nat} : Fits (sumBy (fun p => posR (p.w.q - wtQ b p.v)) (a.take n)) (2 ^ 30) := by
  refine (sumBy_fits (k := 2000001) _ fun p hp => ?_).mono ?_
  · exact posR_fits ((fits_sub (Raw.fits (ga.ok p (List.mem_of_mem_take hp)).w (by omega)) (wtQ_fits gb.ok p.v)).mono (by omega)) (by omega)
  · have h1 : (a.take n).length ≤ 60 := Nat.le_trans (by rw [List.length_take]; omega) ga.le
    have : (a.take n).length * (2000001 + 1) ≤ 60 * 2000002 := Nat.mul_le_mul_right _ h1
    omega
set_option maxHeartbeats 4000000 in
theorem couple_Apart {a b : List Part} (la : a.length ≤ 1000) (lb : b.length ≤ 1000) (oa : ∀ p ∈ a, p.Ok 1000000) (ob : ∀ p ∈ b, p.Ok 1000000) :
    CallD Tryz.prog F.couple_Apart [pl a, pl b] (· = apartV a b) := by
  refine callD_by F.couple_Apart_ok ?_
  unfold F.couple_Apart_c apartV
  simp [setOb, List.filter_cons]
  refine callK_of (couple_Right (by omega) oa) (by simp) ?_
  cases hra : rightP a with
  | false => simp [setOb, List.filter_cons]
  | true =>
  simp
  refine callK_of (couple_Right (by omega) ob) (by simp) ?_
  cases hrb : rightP b with
  | false => simp [setOb, List.filter_cons]
  | true =>
  have ga := good_of hra oa
  have gb := good_of hrb ob
  simp
  refine callK_of ratio_Zero (by simp) ?_
  simp [setOb, List.filter_cons, ratV, raw_v]
  refine wm_loop (fun g : Nat => ((((((Sl.empty.set 23 (.int .i64 g)).set 22 (.int .i64 a.length)).set 21 (pl a)).set 6 (.ptr 1 0 0)).set 4 (.ptr 0 0 0)).set 1 (pl b), [(0, ⟨.own, 3, [[.bool false, .nils, .nils]]⟩), (1, ⟨.own, 3, [(rawOf (sumBy (fun p => posR (p.w.q - wtQ b p.v)) (a.take g))).c]⟩)]))
    (fun g => g ≤ a.length) (fun g => a.length - g) 0 (by omega) ?_ ?_
  · refine weak_obs ?_ (by simp [sumBy]) (by repeat (first | exact sin_empty | refine sin_set (by simp) ?_)) (by simp; exact fun y hy => rawc_within _ y hy)
    repeat (first | exact sub_empty | refine sub_set (by simp) ?_)
  intro i hi
  by_cases h1 : i < a.length
  · have okp := ga.ok a[i] (List.getElem_mem h1)
    have okw : a[i].w.Ok (2 ^ 31) := ⟨okp.w.dn, okp.w.dd, Nat.le_trans okp.w.ln (by omega), Nat.le_trans okp.w.ld (by omega)⟩
    have nn := ga.nn (List.getElem_mem h1)
    have np := ga.pos _ (List.getElem_mem h1)
    have hst := sumBy_take (f := fun p : Part => posR (p.w.q - wtQ b p.v)) h1
    have hacc : (rawOf (sumBy (fun p => posR (p.w.q - wtQ b p.v)) (a.take i))).Ok (2 ^ 31) := rawOf_ok ((apart_fits ga gb).mono (by omega))
    simp [h1, setOb, List.filter_cons]
    refine callK_of (couple_place (by omega) (fun p hp => (ob p hp).v) okp.v gb.rise) (by simp [toD_cells]) ?_
    rcases plc_cases b a[i].v with ⟨k, hk⟩ | hk
    · obtain ⟨lk, ek, hw⟩ := plc_some hk
      have oq := gb.ok b[k] (List.getElem_mem lk)
      have okq : b[k].w.Ok (2 ^ 31) := ⟨oq.w.dn, oq.w.dd, Nat.le_trans oq.w.ln (by omega), Nat.le_trans oq.w.ld (by omega)⟩
      simp [hk, lk]
      refine callFK_of (ratio_Sub okw okq) (by simp [toD_rawc, raw_v]) ?_
      simp [ratV, raw_v, setOb, List.filter_cons]
      have eneg : (rawOf (a[i].w.q - b[k].w.q)).neg = decide (a[i].w.q - b[k].w.q < 0) := rfl
      rw [hw] at hst
      by_cases hn : a[i].w.q - b[k].w.q < 0
      · have e0 : posR (a[i].w.q - b[k].w.q) = 0 := if_pos hn
        rw [e0, Rat.add_zero] at hst
        simp [rawc_0, eneg, hn]
        rw [wrap64 (by omega) (by omega)]
        refine ⟨i + 1, h1, by dsimp only; omega, ?_⟩
        refine weak_obs ?_ (by simp [hst]) (by repeat (first | exact sin_empty | refine sin_set (by simp) ?_)) (by simp; exact fun y hy => rawc_within _ y hy)
        repeat (first | exact sub_empty | refine sub_set (by simp) ?_)
      · have e0 : posR (a[i].w.q - b[k].w.q) = a[i].w.q - b[k].w.q := if_neg hn
        rw [e0] at hst
        simp [rawc_0, eneg, hn]
        refine callK_of (ratio_Add hacc (rawOf_ok ((fits_sub (Raw.fits okp.w (by omega)) (Raw.fits oq.w (by omega))).mono (by omega)))) (by simp [toD_rawc, raw_v]) ?_
        simp [ratV, raw_v, rawOf_q, ← hst, setOb, List.filter_cons]
        rw [wrap64 (by omega) (by omega)]
        refine ⟨i + 1, h1, by dsimp only; omega, ?_⟩
        refine weak_obs ?_ (by simp) (by repeat (first | exact sin_empty | refine sin_set (by simp) ?_)) (by simp; exact fun y hy => rawc_within _ y hy)
        repeat (first | exact sub_empty | refine sub_set (by simp) ?_)
    · have hw := wtQ_none (plc_none hk)
      rw [hw] at hst
      have e0 : posR (a[i].w.q - 0) = a[i].w.q := by
        have e : a[i].w.q - 0 = a[i].w.q := by grind
        rw [e]; exact if_neg (by grind)
      rw [e0] at hst
      simp [hk, rawc_0, nn, setOb, List.filter_cons]
      refine callK_of (ratio_Add hacc okw) (by simp [toD_rawc, raw_v]) ?_
      simp [ratV, raw_v, rawOf_q, ← hst, setOb, List.filter_cons]
      rw [wrap64 (by omega) (by omega)]
      refine ⟨i + 1, h1, by dsimp only; omega, ?_⟩
      refine weak_obs ?_ (by simp) (by repeat (first | exact sin_empty | refine sin_set (by simp) ?_)) (by simp; exact fun y hy => rawc_within _ y hy)
      repeat (first | exact sub_empty | refine sub_set (by simp) ?_)
  · have hil : i = a.length := by omega
    subst hil
    simp [h1, setOb, List.filter_cons, toD_rawc, ratV, raw_v]
    rfl
end Go.Proofs.YtnneehniendnfaaGreat

namespace Go.Proofs.YtnneehniendnfaaGreat
open Go Go.Proofs Go.Proofs.YtnneehniendnfaaGreat.E
set_option linter.unusedSimpArgs false
set_option linter.unusedVariables false
end Go.Proofs.YtnneehniendnfaaGreat

namespace Go.Proofs.YtnneehniendnfaaGreat
open Go Go.Proofs Go.Proofs.YtnneehniendnfaaGreat.E
set_option linter.unusedSimpArgs false
set_option linter.unusedVariables false
end Go.Proofs.YtnneehniendnfaaGreat
