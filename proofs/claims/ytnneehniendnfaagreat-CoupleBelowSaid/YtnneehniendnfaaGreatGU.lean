/- Joined texts: DH, DI, CInO, CBest. -/
import Derived.Test.YtnneehniendnfaaGreatGT
import Derived.Test.YtnneehniendnfaaGreatGS
import Derived.Test.YtnneehniendnfaaGreatGR
namespace Go.Proofs.YtnneehniendnfaaGreat
open Go Go.Proofs Go.Proofs.YtnneehniendnfaaGreat.E
set_option linter.unusedSimpArgs false
set_option linter.unusedVariables false
def minR (a b : Rat) : Rat := if b < a then b else a
def nz (l : List Rat) : Nat := (l.filter fun v => decide (v ≠ 0)).length
theorem nz_le (l : List Rat) : nz l ≤ l.length := List.length_filter_le _ _
theorem nz_cons (a : Rat) (l : List Rat) : nz (a :: l) = (if a = 0 then 0 else 1) + nz l := by
  unfold nz; rw [List.filter_cons]
  by_cases h : a = 0
  · simp [h]
  · simp [h]; omega
theorem nz_set : ∀ {l : List Rat} {i : Nat} (h : i < l.length) (v : Rat), nz (l.set i v) + (if l[i] = 0 then 0 else 1) = nz l + (if v = 0 then 0 else 1)
  | a :: l, 0, h, v => by simp only [List.set_cons_zero, List.getElem_cons_zero, nz_cons]; omega
  | a :: l, i + 1, h, v => by
    simp only [List.set_cons_succ, List.getElem_cons_succ, nz_cons]
    have := nz_set (l := l) (i := i) (by simpa using h) v
    omega
structure Rest (x y : List Rat) (n m e : Nat) : Prop where
  lx : x.length = n
  ly : y.length = m
  nx : ∀ v ∈ x, 0 ≤ v
  ny : ∀ v ∈ y, 0 ≤ v
  fx : ∀ v ∈ x, Fits v (2 ^ e * 4 - 1)
  fy : ∀ v ∈ y, Fits v (2 ^ e * 4 - 1)
  cnt : e + nz x + nz y ≤ 20
theorem Rest.e {x y : List Rat} {n m e : Nat} (h : Rest x y n m e) : e ≤ 20 := by have := h.cnt; omega
theorem Rest.pow {x y : List Rat} {n m e : Nat} (h : Rest x y n m e) : 2 ^ e * 4 ≤ 4194304 := by
  have : 2 ^ e ≤ 2 ^ 20 := Nat.pow_le_pow_right (by omega) h.e
  omega
theorem minR_le (a b : Rat) : minR a b ≤ a ∧ minR a b ≤ b ∧ (minR a b = a ∨ minR a b = b) := by
  unfold minR; split
  · exact ⟨by grind, by grind, .inr rfl⟩
  · exact ⟨by grind, by grind, .inl rfl⟩
theorem minR_fits {a b : Rat} {k : Nat} (ha : Fits a k) (hb : Fits b k) : Fits (minR a b) k := by unfold minR; split <;> assumption
theorem minR_pos {a b : Rat} (ha : 0 < a) (hb : 0 < b) : 0 < minR a b := by unfold minR; split <;> assumption
theorem Rest.emit {x y : List Rat} {n m e i k : Nat} (h : Rest x y n m e) (hi : i < x.length) (hk : k < y.length) (px : 0 < x[i]) (py : 0 < y[k]) :
    Rest (x.set i (x[i] - minR x[i] y[k])) (y.set k (y[k] - minR x[i] y[k])) n m (e + 1) := by
  obtain ⟨m1, m2, m3⟩ := minR_le x[i] y[k]
  have fw := minR_fits (h.fx _ (List.getElem_mem hi)) (h.fy _ (List.getElem_mem hk))
  have hp : 2 ^ (e + 1) * 4 = 2 ^ e * 4 + 2 ^ e * 4 := by rw [Nat.pow_succ]; omega
  have h1 : 1 ≤ 2 ^ e := Nat.one_le_two_pow
  refine ⟨by simp [h.lx], by simp [h.ly], fun v hv => ?_, fun v hv => ?_, fun v hv => ?_, fun v hv => ?_, ?_⟩
  · rcases List.mem_or_eq_of_mem_set hv with hv | rfl
    · exact h.nx v hv
    · grind
  · rcases List.mem_or_eq_of_mem_set hv with hv | rfl
    · exact h.ny v hv
    · grind
  · rcases List.mem_or_eq_of_mem_set hv with hv | rfl
    · exact (h.fx v hv).mono (by omega)
    · exact (fits_sub (h.fx _ (List.getElem_mem hi)) fw).mono (by omega)
  · rcases List.mem_or_eq_of_mem_set hv with hv | rfl
    · exact (h.fy v hv).mono (by omega)
    · exact (fits_sub (h.fy _ (List.getElem_mem hk)) fw).mono (by omega)
  · have e1 := nz_set hi (x[i] - minR x[i] y[k])
    have e2 := nz_set hk (y[k] - minR x[i] y[k])
    have c := h.cnt
    rw [if_neg (by grind)] at e1 e2
    rcases m3 with m3 | m3
    · rw [if_pos (show x[i] - minR x[i] y[k] = 0 by rw [m3]; grind)] at e1
      split at e2 <;> omega
    · rw [if_pos (show y[k] - minR x[i] y[k] = 0 by rw [m3]; grind)] at e2
      split at e1 <;> omega
theorem nz_emit {x y : List Rat} {i k : Nat} (hi : i < x.length) (hk : k < y.length) (px : 0 < x[i]) (py : 0 < y[k]) : nz (x.set i (x[i] - minR x[i] y[k])) + nz (y.set k (y[k] - minR x[i] y[k])) < nz x + nz y := by
  obtain ⟨m1, m2, m3⟩ := minR_le x[i] y[k]
  have e1 := nz_set hi (x[i] - minR x[i] y[k])
  have e2 := nz_set hk (y[k] - minR x[i] y[k])
  rw [if_neg (by grind)] at e1 e2
  rcases m3 with m3 | m3
  · rw [if_pos (show x[i] - minR x[i] y[k] = 0 by rw [m3]; grind)] at e1
    split at e2 <;> omega
  · rw [if_pos (show y[k] - minR x[i] y[k] = 0 by rw [m3]; grind)] at e2
    split at e1 <;> omega
def gr (x y : List Rat) (i k : Nat) : List Pq :=
  if h : i < x.length ∧ k < y.length then
    (if 0 < minR (x[i]'h.1) (y[k]'h.2) then [⟨i, k, minR (x[i]'h.1) (y[k]'h.2)⟩] else []) ++
      (if (x[i]'h.1) - minR (x[i]'h.1) (y[k]'h.2) = 0 then gr (x.set i ((x[i]'h.1) - minR (x[i]'h.1) (y[k]'h.2))) (y.set k ((y[k]'h.2) - minR (x[i]'h.1) (y[k]'h.2))) (i + 1) k
        else gr (x.set i ((x[i]'h.1) - minR (x[i]'h.1) (y[k]'h.2))) (y.set k ((y[k]'h.2) - minR (x[i]'h.1) (y[k]'h.2))) i (k + 1))
  else []
termination_by (x.length - i) + (y.length - k)
decreasing_by all_goals (simp only [List.length_set]; omega)
theorem gr_end {x y : List Rat} {i k : Nat} (h : ¬ (i < x.length ∧ k < y.length)) : gr x y i k = [] := by rw [gr, dif_neg h]
theorem set_sub_zero {l : List Rat} {i : Nat} (h : i < l.length) : l.set i (l[i] - 0) = l := by
  have : l[i] - 0 = l[i] := by grind
  rw [this, List.set_getElem_self]
theorem gr_step {x y : List Rat} {i k : Nat} (hi : i < x.length) (hk : k < y.length) : gr x y i k = (if 0 < minR x[i] y[k] then [⟨i, k, minR x[i] y[k]⟩] else []) ++ (if x[i] - minR x[i] y[k] = 0 then gr (x.set i (x[i] - minR x[i] y[k])) (y.set k (y[k] - minR x[i] y[k])) (i + 1) k else gr (x.set i (x[i] - minR x[i] y[k])) (y.set k (y[k] - minR x[i] y[k])) i (k + 1)) := by
  rw [gr, dif_pos ⟨hi, hk⟩]
theorem gr_row {x y : List Rat} {i k : Nat} (hi : i < x.length) (hk : k < y.length) (h0 : x[i] = 0) (hy : 0 ≤ y[k]) : gr x y i k = gr x y (i + 1) k := by
  have hm : minR x[i] y[k] = 0 := by unfold minR; split <;> grind
  rw [gr_step hi hk, hm, if_neg (by grind), if_pos (by grind), set_sub_zero hi, set_sub_zero hk]; rfl
theorem gr_col {x y : List Rat} {i k : Nat} (hi : i < x.length) (hk : k < y.length) (h0 : x[i] ≠ 0) (hx : 0 ≤ x[i]) (hy : y[k] = 0) : gr x y i k = gr x y i (k + 1) := by
  have hm : minR x[i] y[k] = 0 := by unfold minR; split <;> grind
  rw [gr_step hi hk, hm, if_neg (by grind), if_neg (by grind), set_sub_zero hi, set_sub_zero hk]; rfl
theorem gr_emit {x y : List Rat} {i k : Nat} (hi : i < x.length) (hk : k < y.length) (px : 0 < x[i]) (py : 0 < y[k]) : gr x y i k = ⟨i, k, minR x[i] y[k]⟩ :: gr (x.set i (x[i] - minR x[i] y[k])) (y.set k (y[k] - minR x[i] y[k])) i k := by
  have hm := minR_pos px py
  obtain ⟨m1, m2, m3⟩ := minR_le x[i] y[k]
  rw [gr_step hi hk, if_pos hm]
  have hi' : i < (x.set i (x[i] - minR x[i] y[k])).length := by simpa using hi
  have hk' : k < (y.set k (y[k] - minR x[i] y[k])).length := by simpa using hk
  have gx : (x.set i (x[i] - minR x[i] y[k]))[i] = x[i] - minR x[i] y[k] := by simp
  have gy : (y.set k (y[k] - minR x[i] y[k]))[k] = y[k] - minR x[i] y[k] := by simp
  by_cases c : x[i] - minR x[i] y[k] = 0
  · rw [if_pos c, gr_row hi' hk' (by rw [gx]; exact c) (by rw [gy]; grind)]; rfl
  · rw [if_neg c, gr_col hi' hk' (by rw [gx]; exact c) (by rw [gx]; grind) (by rw [gy]; rcases m3 with m3 | m3 <;> grind)]; rfl
end Go.Proofs.YtnneehniendnfaaGreat

namespace Go.Proofs.YtnneehniendnfaaGreat
open Go Go.Proofs Go.Proofs.YtnneehniendnfaaGreat.E
set_option linter.unusedSimpArgs false
set_option linter.unusedVariables false
def at0 (l : List Rat) (i : Nat) : Rat := l[i]?.getD 0
theorem at0_eq {l : List Rat} {i : Nat} (h : i < l.length) : at0 l i = l[i] := by unfold at0; rw [List.getElem?_eq_getElem h]; rfl
def commS (a b : List Part) : Nat → List Pq × List Rat × List Rat
  | 0 => ([], a.map (·.w.q), b.map (·.w.q))
  | i + 1 => match a[i]? with
    | none => commS a b i
    | some p => match plc b p.v with
      | .ofNat k => ((commS a b i).1 ++ [⟨i, k, minR (at0 (commS a b i).2.1 i) (at0 (commS a b i).2.2 k)⟩],
          (commS a b i).2.1.set i (at0 (commS a b i).2.1 i - minR (at0 (commS a b i).2.1 i) (at0 (commS a b i).2.2 k)),
          (commS a b i).2.2.set k (at0 (commS a b i).2.2 k - minR (at0 (commS a b i).2.1 i) (at0 (commS a b i).2.2 k)))
      | _ => commS a b i
theorem commS_none {a b : List Part} {i : Nat} (hi : i < a.length) (h : plc b a[i].v = -1) : commS a b (i + 1) = commS a b i := by
  rw [commS, List.getElem?_eq_getElem hi]
  simp only [h]
theorem commS_some {a b : List Part} {i k : Nat} (hi : i < a.length) (h : plc b a[i].v = k) : commS a b (i + 1) = ((commS a b i).1 ++ [⟨i, k, minR (at0 (commS a b i).2.1 i) (at0 (commS a b i).2.2 k)⟩],
          (commS a b i).2.1.set i (at0 (commS a b i).2.1 i - minR (at0 (commS a b i).2.1 i) (at0 (commS a b i).2.2 k)),
          (commS a b i).2.2.set k (at0 (commS a b i).2.2 k - minR (at0 (commS a b i).2.1 i) (at0 (commS a b i).2.2 k))) := by
  rw [commS, List.getElem?_eq_getElem hi]
  simp only [h]
structure CInv (a b : List Part) (i : Nat) (s : List Pq × List Rat × List Rat) : Prop where
  rest : Rest s.2.1 s.2.2 a.length b.length s.1.length
  row : ∀ j, i ≤ j → (hj : j < a.length) → at0 s.2.1 j = a[j].w.q
  col : ∀ k (hk : k < b.length), (∀ j (hj : j < a.length), j < i → a[j].v ≠ b[k].v) → at0 s.2.2 k = b[k].w.q
  pos : ∀ p ∈ s.1, 0 < p.q ∧ Fits p.q 4194304
theorem comm_inv {a b : List Part} (ga : Good a) (gb : Good b) (na : a.length ≤ 10) (nb : b.length ≤ 10) (oa : ∀ p ∈ a, p.w.Ok 3) (ob : ∀ p ∈ b, p.w.Ok 3) : ∀ i, i ≤ a.length → CInv a b i (commS a b i) := by
  intro i
  induction i with
  | zero =>
    intro _
    refine ⟨⟨by simp [commS], by simp [commS], ?_, ?_, ?_, ?_, ?_⟩, fun j _ hj => ?_, fun k hk _ => ?_, by simp [commS]⟩
    · intro v hv; simp only [commS, List.mem_map] at hv; obtain ⟨p, hp, rfl⟩ := hv; have := ga.pos p hp; grind
    · intro v hv; simp only [commS, List.mem_map] at hv; obtain ⟨p, hp, rfl⟩ := hv; have := gb.pos p hp; grind
    · intro v hv; simp only [commS, List.mem_map] at hv; obtain ⟨p, hp, rfl⟩ := hv; exact (Raw.fits (k := 3) (oa p hp) (by omega)).mono (by simp [commS])
    · intro v hv; simp only [commS, List.mem_map] at hv; obtain ⟨p, hp, rfl⟩ := hv; exact (Raw.fits (k := 3) (ob p hp) (by omega)).mono (by simp [commS])
    · have h1 := nz_le (a.map (·.w.q))
      have h2 := nz_le (b.map (·.w.q))
      simp [commS] at h1 h2 ⊢; omega
    · rw [at0_eq (by simpa [commS] using hj)]; simp [commS]
    · rw [at0_eq (by simpa [commS] using hk)]; simp [commS]
  | succ i ih =>
    intro hi
    have inv := ih (by omega)
    have hil : i < a.length := by omega
    rcases plc_cases b a[i].v with ⟨k, hk⟩ | hk
    · obtain ⟨lk, ek, _⟩ := plc_some hk
      rw [commS_some hil hk]
      generalize commS a b i = s at *
      have lx := inv.rest.lx
      have ly := inv.rest.ly
      have hix : i < s.2.1.length := by omega
      have hky : k < s.2.2.length := by omega
      have rx := inv.row i (Nat.le_refl _) hil
      have ry := inv.col k lk fun j hj hji e => by
        have := ga.rise j i hj hil hji
        rw [e, ek, cmpT_self] at this
        omega
      have px : 0 < s.2.1[i] := by rw [at0_eq hix] at rx; rw [rx]; exact ga.pos _ (List.getElem_mem hil)
      have py : 0 < s.2.2[k] := by rw [at0_eq hky] at ry; rw [ry]; exact gb.pos _ (List.getElem_mem lk)
      rw [at0_eq hix, at0_eq hky]
      refine ⟨?_, fun j hj hjl => ?_, fun c hc h => ?_, fun p hp => ?_⟩
      · have := inv.rest.emit hix hky px py
        simpa using this
      · have := inv.row j (by omega) hjl
        unfold at0 at this ⊢
        rw [List.getElem?_set_ne (by omega)]; exact this
      · have := inv.col c hc fun j hj hji => h j hj (by omega)
        have hne : k ≠ c := by
          rintro rfl
          exact h i hil (by omega) ek.symm
        unfold at0 at this ⊢
        dsimp only
        rw [List.getElem?_set_ne hne]; exact this
      · simp only [List.mem_append, List.mem_singleton] at hp
        rcases hp with hp | rfl
        · exact inv.pos p hp
        · have := inv.rest.pow
          exact ⟨minR_pos px py, (minR_fits (inv.rest.fx _ (List.getElem_mem hix)) (inv.rest.fy _ (List.getElem_mem hky))).mono (by omega)⟩
    · rw [commS_none hil hk]
      exact ⟨inv.rest, fun j hj hjl => inv.row j (by omega) hjl, fun c hc h => inv.col c hc fun j hj hji => h j hj (by omega), inv.pos⟩
end Go.Proofs.YtnneehniendnfaaGreat

namespace Go.Proofs.YtnneehniendnfaaGreat
open Go Go.Proofs Go.Proofs.YtnneehniendnfaaGreat.E
set_option linter.unusedSimpArgs false
set_option linter.unusedVariables false
theorem num_nil (r : Rat) : (rawOf r).num = [] ↔ r = 0 := by
  unfold rawOf; simp only [digs_nil_iff]
  rw [← Rat.num_eq_zero]; omega
def rq (q : Rat) : List V := (rawOf q).c
theorem rq_len (q : Rat) : (rq q).length = 3 := rfl
theorem rq_take (q : Rat) : (rq q).take 3 = rq q := rfl
theorem rq_drop (q : Rat) : (rq q).drop 3 = [] := rfl
theorem rq_1 (q : Rat) : (rq q)[1]? = some (nat (rawOf q).num) := (rfl)
theorem rq_rch (σ : Sto) (n : Nat) (q : Rat) : (rq q).flatMap (rch σ n) = [] := rch_rawc _ _ _
attribute [simp] rq_len rq_take rq_drop rq_1 rq_rch
abbrev obR (x : List Rat) : Ob := ⟨.own, 3, x.map rq⟩
theorem plain_R (L : List Rat) : Plain (obR L).cells := by
  intro r hr y hy p
  obtain ⟨x, _, rfl⟩ := List.mem_map.1 hr
  exact rawc_within _ y hy
def ioBase (σ : Sto) (o p : Nat) (x y : List Rat) : Sto := setOb (setOb σ o (obR x)) p (obR y)
def ioStore (σ : Sto) (o p : Nat) (x y : List Rat) (q : Nat) (G : List Pq) : Sto := if G = [] then ioBase σ o p x y else setOb (ioBase σ o p x y) q (obP G)
section
variable {σ : Sto} {o p q : Nat} {x y : List Rat} {G : List Pq}
theorem ioBase_shut (hs : Shut σ) : Shut (ioBase σ o p x y) := shut_set (shut_set hs (plain_R _)) (plain_R _)
theorem ioStore_shut (hs : Shut σ) : Shut (ioStore σ o p x y q G) := by
  unfold ioStore; split
  · exact ioBase_shut hs
  · exact shut_set (ioBase_shut hs) (plain_P _)
theorem ioStore_keep : ∀ k ∈ σ.map (·.1), (E.look (ioStore σ o p x y q G) k).isSome = true := by
  unfold ioStore ioBase; split
  · exact keep_set (keep_set keys_look)
  · exact keep_set (keep_set (keep_set keys_look))
theorem ioStore_nil : ioStore σ o p x y q [] = setOb (setOb σ o (obR x)) p (obR y) := rfl
theorem ioStore_pos (h : G ≠ []) : ioStore σ o p x y q G = setOb (setOb (setOb σ o (obR x)) p (obR y)) q (obP G) := if_neg h
theorem look_some_set {σ : Sto} {k o : Nat} {x : Ob} (h : (E.look σ k).isSome = true) : (E.look (setOb σ o x) k).isSome = true := by
  rw [look_setOb]; split
  · rfl
  · exact h
theorem look_self {σ : Sto} {o : Nat} {x : Ob} : (E.look (setOb σ o x) o).isSome = true := by simp
theorem ioStore_o : (E.look (ioStore σ o p x y q G) o).isSome = true := by
  unfold ioStore ioBase; split
  · exact look_some_set look_self
  · exact look_some_set (look_some_set look_self)
theorem ioStore_p : (E.look (ioStore σ o p x y q G) p).isSome = true := by
  unfold ioStore ioBase; split
  · exact look_self
  · exact look_some_set look_self
theorem ioStore_q (h : G ≠ []) : (E.look (ioStore σ o p x y q G) q).isSome = true := by
  rw [ioStore_pos h]; exact look_self
structure IInv (σ : Sto) (x0 y0 : List Rat) (n m e : Nat) (i k : Nat) (x y : List Rat) (q : Nat) (G : List Pq) : Prop where
  rest : Rest x y n m (e + G.length)
  all : G ++ gr x y i k = gr x0 y0 0 0
  new : fresh σ ≤ q
  pos : ∀ p ∈ G, 0 < p.q ∧ Fits p.q 4194304
  i : i ≤ n
  k : k ≤ m
set_option maxHeartbeats 8000000 in
theorem couple_inOrder {n m e : Nat} (hx : E.look σ o = some (obR x)) (hy : E.look σ p = some (obR y)) (hne : o ≠ p) (hs : Shut σ) (hr : Rest x y n m e) (hn : n ≤ 1000) (hm : m ≤ 1000) :
    CallX Tryz.prog F.couple_inOrder [.ref o 0 n, .ref p 0 m] σ
      (fun v s => ∃ q, v = grown q (gr x y 0 0).length ∧ (gr x y 0 0 ≠ [] → E.look s q = some (obP (gr x y 0 0))) ∧ (∀ k z, k ≠ o → k ≠ p → E.look σ k = some z → E.look s k = some z) ∧ Shut s ∧ e + (gr x y 0 0).length ≤ 20 ∧ ∀ t ∈ gr x y 0 0, 0 < t.q ∧ Fits t.q 4194304) := by
  have hoN := lt_fresh hx
  have hpN := lt_fresh hy
  have hpo : p ≠ o := hne.symm
  refine callX_by F.couple_inOrder_ok ?_
  unfold F.couple_inOrder_c
  generalize hN : fresh σ = N at *
  simp
  refine wm_loop (fun g : Nat × Nat × List Rat × List Rat × Nat × List Pq => (((((Sl.empty.set 7 (.int .i64 g.2.1)).set 6 (.int .i64 g.1)).set 5 (grown g.2.2.2.2.1 g.2.2.2.2.2.length)).set 1 (.ref p 0 m)).set 0 (.ref o 0 n), ioStore σ o p g.2.2.1 g.2.2.2.1 g.2.2.2.2.1 g.2.2.2.2.2))
    (fun g => IInv σ x y n m e g.1 g.2.1 g.2.2.1 g.2.2.2.1 g.2.2.2.2.1 g.2.2.2.2.2) (fun g => (n - g.1) + (m - g.2.1) + nz g.2.2.1 + nz g.2.2.2.1) (0, 0, x, y, N, []) ?_ ?_ ?_
  · exact ⟨hr, rfl, by dsimp only; omega, by simp, by simp, by simp⟩
  · refine weak_gen (σ1 := ioStore σ o p x y N []) ?_ ?_ ioStore_keep ?_ (ioStore_shut hs)
    · simp only [List.length_nil, grown_zero]
      repeat (first | exact sub_empty | refine sub_set (by simp) ?_)
    · intro k z
      rw [ioStore_nil]
      simp only [look_setOb]
      by_cases a1 : k = p
      · subst a1; rw [if_pos rfl, hy]; exact id
      · by_cases a2 : k = o
        · subst a2; rw [if_neg a1, if_pos rfl, hx]; exact id
        · rw [if_neg a1, if_neg a2]; exact id
    · simp only [List.length_nil, grown_zero]
      repeat (first | exact sin_empty | refine sin_set (by first | (simp only [V.within]; exact ioStore_o) | (simp only [V.within]; exact ioStore_p) | simp) ?_)
  rintro ⟨i, k, x', y', q, G⟩ ⟨hr', ha, hq, hg, hi, hk⟩
  dsimp only at hr' ha hq hg hi hk
  rw [hN] at hq
  have lx := hr'.lx
  have ly := hr'.ly
  by_cases h1 : i < n
  · by_cases h2 : k < m
    · have hix : i < x'.length := by omega
      have hky : k < y'.length := by omega
      have nx := hr'.nx _ (List.getElem_mem hix)
      have ny := hr'.ny _ (List.getElem_mem hky)
      by_cases hG : G = []
      · subst hG
        by_cases hx0 : x'[i] = 0
        · have hy0 : True := trivial
          simp (disch := omega) [h1, h2, hix, hky, ioStore_nil, grown_zero, fresh_set, hN, Nat.max_eq_left, Nat.max_eq_right, if_neg, if_pos, num_nil, hne, hpo, hx0, hy0]
          rw [wrap64 (by omega) (by omega)]
          refine ⟨(i + 1, k, x', y', q, []), ⟨hr', by dsimp only; rw [← gr_row hix hky hx0 ny]; exact ha, by rw [hN]; exact hq, hg, by dsimp only; omega, hk⟩, by dsimp only; omega, ?_⟩
          refine weak_gen (σ1 := ioStore σ o p x' y' q []) ?_ (by rw [ioStore_nil]; exact Has.refl _) ioStore_keep ?_ (ioStore_shut hs)
          · simp only [List.length_nil, grown_zero]
            repeat (first | exact sub_empty | refine sub_set (by simp) ?_)
          · simp only [List.length_nil, grown_zero]
            repeat (first | exact sin_empty | refine sin_set (by first | (simp only [V.within]; exact ioStore_o) | (simp only [V.within]; exact ioStore_p) | (simp only [V.within]; exact ioStore_q (by simp)) | simp) ?_)
        by_cases hy0 : y'[k] = 0
        · simp (disch := omega) [h1, h2, hix, hky, ioStore_nil, grown_zero, fresh_set, hN, Nat.max_eq_left, Nat.max_eq_right, if_neg, if_pos, num_nil, hne, hpo, hx0, hy0]
          rw [wrap64 (by omega) (by omega)]
          refine ⟨(i, k + 1, x', y', q, []), ⟨hr', by dsimp only; rw [← gr_col hix hky hx0 nx hy0]; exact ha, by rw [hN]; exact hq, hg, hi, by dsimp only; omega⟩, by dsimp only; omega, ?_⟩
          refine weak_gen (σ1 := ioStore σ o p x' y' q []) ?_ (by rw [ioStore_nil]; exact Has.refl _) ioStore_keep ?_ (ioStore_shut hs)
          · simp only [List.length_nil, grown_zero]
            repeat (first | exact sub_empty | refine sub_set (by simp) ?_)
          · simp only [List.length_nil, grown_zero]
            repeat (first | exact sin_empty | refine sin_set (by first | (simp only [V.within]; exact ioStore_o) | (simp only [V.within]; exact ioStore_p) | (simp only [V.within]; exact ioStore_q (by simp)) | simp) ?_)
        simp (disch := omega) [h1, h2, hix, hky, ioStore_nil, grown_zero, fresh_set, hN, Nat.max_eq_left, Nat.max_eq_right, if_neg, if_pos, num_nil, hne, hpo, hx0, hy0]
        have px : 0 < x'[i] := by grind
        have py : 0 < y'[k] := by grind
        have pw := hr'.pow
        have emit := hr'.emit hix hky px py
        have nze := nz_emit hix hky px py
        have gre := gr_emit hix hky px py
        have wpos := minR_pos px py
        have wfit := minR_fits (hr'.fx _ (List.getElem_mem hix)) (hr'.fy _ (List.getElem_mem hky))
        have okx : (rawOf x'[i]).Ok (2 ^ 31) := rawOf_ok ((hr'.fx _ (List.getElem_mem hix)).mono (by omega))
        have oky : (rawOf y'[k]).Ok (2 ^ 31) := rawOf_ok ((hr'.fy _ (List.getElem_mem hky)).mono (by omega))
        have okw : (rawOf (minR x'[i] y'[k])).Ok (2 ^ 31) := rawOf_ok ((minR_fits (hr'.fx _ (List.getElem_mem hix)) (hr'.fy _ (List.getElem_mem hky))).mono (by omega))
        have okx3 : (rawOf x'[i]).Ok (2 ^ 33) := rawOf_ok ((hr'.fx _ (List.getElem_mem hix)).mono (by omega))
        have oky3 : (rawOf y'[k]).Ok (2 ^ 33) := rawOf_ok ((hr'.fy _ (List.getElem_mem hky)).mono (by omega))
        refine callFK_of (ratio_Least okx3 oky3) (by simp [rq, toD_rawc, raw_v]) ?_
        rw [rawOf_q, rawOf_q, show (if y'[k] < x'[i] then y'[k] else x'[i]) = minR x'[i] y'[k] from rfl]
        generalize hw : minR x'[i] y'[k] = w at *
        simp (disch := omega) [ratV, raw_v, h1, h2, hix, hky, ioStore_nil, grown_zero, fresh_set, hN, Nat.max_eq_left, Nat.max_eq_right, if_neg, if_pos, hne, hpo]
        refine callFK_of (ratio_Sub okx okw) (by simp [rq, toD_rawc, raw_v]) ?_
        rw [rawOf_q, rawOf_q]
        simp (disch := omega) [ratV, raw_v, h1, h2, hix, hky, ioStore_nil, grown_zero, fresh_set, hN, Nat.max_eq_left, Nat.max_eq_right, if_neg, if_pos, hne, hpo]
        refine callFK_of (ratio_Sub oky okw) (by simp [rq, toD_rawc, raw_v]) ?_
        rw [rawOf_q, rawOf_q]
        simp (disch := omega) [ratV, raw_v, h1, h2, hix, hky, ioStore_nil, grown_zero, fresh_set, hN, Nat.max_eq_left, Nat.max_eq_right, if_neg, if_pos, hne, hpo]
        have eX : (List.map rq x').set i (rawOf (x'[i] - w)).c = List.map rq (x'.set i (x'[i] - w)) := by rw [List.map_set]; rfl
        have eY : (List.map rq y').set k (rawOf (y'[k] - w)).c = List.map rq (y'.set k (y'[k] - w)) := by rw [List.map_set]; rfl
        rw [eX, eY]
        have hG2 : [(⟨i, k, w⟩ : Pq)] ≠ [] := by simp
        have hl2 : [(⟨i, k, w⟩ : Pq)].length = 1 := by simp
        refine ⟨(i, k, x'.set i (x'[i] - w), y'.set k (y'[k] - w), N + 2, [(⟨i, k, w⟩ : Pq)]), ⟨?_, ?_, by rw [hN]; dsimp only; omega, ?_, hi, hk⟩, by dsimp only; omega, ?_⟩
        · dsimp only; rw [hl2]; exact emit
        · dsimp only; rw [← ha, gre]; simp
        · intro t ht
          simp only [List.mem_singleton] at ht; subst ht; exact ⟨wpos, wfit.mono (by omega)⟩
        · refine weak_gen (σ1 := ioStore σ o p (x'.set i (x'[i] - w)) (y'.set k (y'[k] - w)) (N + 2) [(⟨i, k, w⟩ : Pq)]) ?_ ?_ ioStore_keep ?_ (ioStore_shut hs)
          · simp only [hl2, grown_pos (show 1 ≠ 0 by omega)]
            repeat (first | exact sub_empty | refine sub_set (by simp) ?_)
          · intro j z
            rw [ioStore_pos hG2]
            simp only [look_setOb]
            have hnew : ∀ k, N ≤ k → E.look σ k = none := fun k hk => look_fresh σ k (by rw [hN]; exact hk)
            by_cases a1 : j = N + 2
            · subst a1; simp (disch := omega) [obP, if_neg, Pq.c, prC, Pq.pr]
            · by_cases a2 : j = p
              · subst a2; simp (disch := omega) [if_neg, obR]
              · by_cases a3 : j = o
                · subst a3; simp (disch := omega) [if_neg, obR, hne]
                · intro hp
                  rw [if_neg a1, if_neg a2, if_neg a3] at hp
                  have : j < N := Nat.lt_of_not_le fun hle => by rw [hnew j hle] at hp; simp at hp
                  simp (disch := omega) [if_neg, a2, a3, hp]
          · simp only [hl2, grown_pos (show 1 ≠ 0 by omega)]
            repeat (first | exact sin_empty | refine sin_set (by first | (simp only [V.within]; exact ioStore_o) | (simp only [V.within]; exact ioStore_p) | (simp only [V.within]; exact ioStore_q hG2) | simp) ?_)
      · have glim : G.length ≤ 20 := by have := hr'.e; omega
        have hg0 : G.length ≠ 0 := fun h => hG (List.length_eq_zero_iff.1 h)
        by_cases hx0 : x'[i] = 0
        · have hy0 : True := trivial
          simp (disch := omega) [h1, h2, hix, hky, ioStore_pos hG, grown_pos hg0, fresh_set, hN, Nat.max_eq_left, Nat.max_eq_right, if_neg, if_pos, num_nil, hne, hpo, hx0, hy0]
          rw [wrap64 (by omega) (by omega)]
          refine ⟨(i + 1, k, x', y', q, G), ⟨hr', by dsimp only; rw [← gr_row hix hky hx0 ny]; exact ha, by rw [hN]; exact hq, hg, by dsimp only; omega, hk⟩, by dsimp only; omega, ?_⟩
          refine weak_gen (σ1 := ioStore σ o p x' y' q G) ?_ (by rw [ioStore_pos hG]; exact Has.refl _) ioStore_keep ?_ (ioStore_shut hs)
          · simp only [grown_pos hg0]
            repeat (first | exact sub_empty | refine sub_set (by simp) ?_)
          · simp only [grown_pos hg0]
            repeat (first | exact sin_empty | refine sin_set (by first | (simp only [V.within]; exact ioStore_o) | (simp only [V.within]; exact ioStore_p) | (simp only [V.within]; exact ioStore_q hG) | simp) ?_)
        by_cases hy0 : y'[k] = 0
        · simp (disch := omega) [h1, h2, hix, hky, ioStore_pos hG, grown_pos hg0, fresh_set, hN, Nat.max_eq_left, Nat.max_eq_right, if_neg, if_pos, num_nil, hne, hpo, hx0, hy0]
          rw [wrap64 (by omega) (by omega)]
          refine ⟨(i, k + 1, x', y', q, G), ⟨hr', by dsimp only; rw [← gr_col hix hky hx0 nx hy0]; exact ha, by rw [hN]; exact hq, hg, hi, by dsimp only; omega⟩, by dsimp only; omega, ?_⟩
          refine weak_gen (σ1 := ioStore σ o p x' y' q G) ?_ (by rw [ioStore_pos hG]; exact Has.refl _) ioStore_keep ?_ (ioStore_shut hs)
          · simp only [grown_pos hg0]
            repeat (first | exact sub_empty | refine sub_set (by simp) ?_)
          · simp only [grown_pos hg0]
            repeat (first | exact sin_empty | refine sin_set (by first | (simp only [V.within]; exact ioStore_o) | (simp only [V.within]; exact ioStore_p) | (simp only [V.within]; exact ioStore_q hG) | simp) ?_)
        simp (disch := omega) [h1, h2, hix, hky, ioStore_pos hG, grown_pos hg0, fresh_set, hN, Nat.max_eq_left, Nat.max_eq_right, if_neg, if_pos, num_nil, hne, hpo, hx0, hy0]
        have px : 0 < x'[i] := by grind
        have py : 0 < y'[k] := by grind
        have pw := hr'.pow
        have emit := hr'.emit hix hky px py
        have nze := nz_emit hix hky px py
        have gre := gr_emit hix hky px py
        have wpos := minR_pos px py
        have wfit := minR_fits (hr'.fx _ (List.getElem_mem hix)) (hr'.fy _ (List.getElem_mem hky))
        have okx : (rawOf x'[i]).Ok (2 ^ 31) := rawOf_ok ((hr'.fx _ (List.getElem_mem hix)).mono (by omega))
        have oky : (rawOf y'[k]).Ok (2 ^ 31) := rawOf_ok ((hr'.fy _ (List.getElem_mem hky)).mono (by omega))
        have okw : (rawOf (minR x'[i] y'[k])).Ok (2 ^ 31) := rawOf_ok ((minR_fits (hr'.fx _ (List.getElem_mem hix)) (hr'.fy _ (List.getElem_mem hky))).mono (by omega))
        have okx3 : (rawOf x'[i]).Ok (2 ^ 33) := rawOf_ok ((hr'.fx _ (List.getElem_mem hix)).mono (by omega))
        have oky3 : (rawOf y'[k]).Ok (2 ^ 33) := rawOf_ok ((hr'.fy _ (List.getElem_mem hky)).mono (by omega))
        refine callFK_of (ratio_Least okx3 oky3) (by simp [rq, toD_rawc, raw_v]) ?_
        rw [rawOf_q, rawOf_q, show (if y'[k] < x'[i] then y'[k] else x'[i]) = minR x'[i] y'[k] from rfl]
        generalize hw : minR x'[i] y'[k] = w at *
        simp (disch := omega) [ratV, raw_v, h1, h2, hix, hky, ioStore_pos hG, grown_pos hg0, fresh_set, hN, Nat.max_eq_left, Nat.max_eq_right, if_neg, if_pos, hne, hpo]
        refine callFK_of (ratio_Sub okx okw) (by simp [rq, toD_rawc, raw_v]) ?_
        rw [rawOf_q, rawOf_q]
        simp (disch := omega) [ratV, raw_v, h1, h2, hix, hky, ioStore_pos hG, grown_pos hg0, fresh_set, hN, Nat.max_eq_left, Nat.max_eq_right, if_neg, if_pos, hne, hpo]
        refine callFK_of (ratio_Sub oky okw) (by simp [rq, toD_rawc, raw_v]) ?_
        rw [rawOf_q, rawOf_q]
        simp (disch := omega) [ratV, raw_v, h1, h2, hix, hky, ioStore_pos hG, grown_pos hg0, fresh_set, hN, Nat.max_eq_left, Nat.max_eq_right, if_neg, if_pos, hne, hpo]
        have eX : (List.map rq x').set i (rawOf (x'[i] - w)).c = List.map rq (x'.set i (x'[i] - w)) := by rw [List.map_set]; rfl
        have eY : (List.map rq y').set k (rawOf (y'[k] - w)).c = List.map rq (y'.set k (y'[k] - w)) := by rw [List.map_set]; rfl
        rw [eX, eY]
        have hG2 : (G ++ [(⟨i, k, w⟩ : Pq)]) ≠ [] := by simp
        have hl2 : (G ++ [(⟨i, k, w⟩ : Pq)]).length = G.length + 1 := by simp
        refine ⟨(i, k, x'.set i (x'[i] - w), y'.set k (y'[k] - w), q + 3, (G ++ [(⟨i, k, w⟩ : Pq)])), ⟨?_, ?_, by rw [hN]; dsimp only; omega, ?_, hi, hk⟩, by dsimp only; omega, ?_⟩
        · dsimp only; rw [hl2]; exact emit
        · dsimp only; rw [← ha, gre]; simp
        · intro t ht
          simp only [List.mem_append, List.mem_singleton] at ht
          rcases ht with ht | rfl
          · exact hg t ht
          · exact ⟨wpos, wfit.mono (by omega)⟩
        · refine weak_gen (σ1 := ioStore σ o p (x'.set i (x'[i] - w)) (y'.set k (y'[k] - w)) (q + 3) (G ++ [(⟨i, k, w⟩ : Pq)])) ?_ ?_ ioStore_keep ?_ (ioStore_shut hs)
          · simp only [hl2, grown_pos (show G.length + 1 ≠ 0 by omega)]
            repeat (first | exact sub_empty | refine sub_set (by simp) ?_)
          · intro j z
            rw [ioStore_pos hG2]
            simp only [look_setOb]
            have hnew : ∀ k, N ≤ k → E.look σ k = none := fun k hk => look_fresh σ k (by rw [hN]; exact hk)
            by_cases a1 : j = q + 3
            · subst a1; simp (disch := omega) [obP, if_neg, Pq.c, prC, Pq.pr]
            · by_cases a2 : j = p
              · subst a2; simp (disch := omega) [if_neg, obR]
              · by_cases a3 : j = o
                · subst a3; simp (disch := omega) [if_neg, obR, hne]
                · intro hp
                  rw [if_neg a1, if_neg a2, if_neg a3] at hp
                  have : j < N := Nat.lt_of_not_le fun hle => by rw [hnew j hle] at hp; simp at hp
                  simp (disch := omega) [if_neg, a2, a3, hp]
          · simp only [hl2, grown_pos (show G.length + 1 ≠ 0 by omega)]
            repeat (first | exact sin_empty | refine sin_set (by first | (simp only [V.within]; exact ioStore_o) | (simp only [V.within]; exact ioStore_p) | (simp only [V.within]; exact ioStore_q hG2) | simp) ?_)
    · have hz : gr x' y' i k = [] := gr_end (by omega)
      rw [hz, List.append_nil] at ha
      have h2' : ¬ k < m := h2
      simp [h1, h2']
      have hcnt := hr'.cnt
      rw [← ha]
      refine doneX_gen (r := grown q G.length) (l := [grown q G.length]) (by simp) (by simp) rfl (Has.refl _) ioStore_keep (ioStore_shut hs) ?_ ⟨q, rfl, fun hG => ?_, fun j z hj1 hj2 hz => ?_, ioStore_shut hs, by omega, hg⟩
      · by_cases hG : G = []
        · subst hG; simp [grown_zero]
        · rw [grown_pos (fun h => hG (List.length_eq_zero_iff.1 h))]; simp only [V.within]; exact ioStore_q hG
      · rw [ioStore_pos hG]; simp
      · have hjN : j < N := by rw [← hN]; exact lt_fresh hz
        unfold ioStore ioBase
        split
        · simp only [look_setOb]; rw [if_neg hj2, if_neg hj1]; exact hz
        · simp only [look_setOb]; rw [if_neg (by omega), if_neg hj2, if_neg hj1]; exact hz
  · have hz : gr x' y' i k = [] := gr_end (by omega)
    rw [hz, List.append_nil] at ha
    simp [h1]
    have hcnt := hr'.cnt
    rw [← ha]
    refine doneX_gen (r := grown q G.length) (l := [grown q G.length]) (by simp) (by simp) rfl (Has.refl _) ioStore_keep (ioStore_shut hs) ?_ ⟨q, rfl, fun hG => ?_, fun j z hj1 hj2 hz => ?_, ioStore_shut hs, by omega, hg⟩
    · by_cases hG : G = []
      · subst hG; simp [grown_zero]
      · rw [grown_pos (fun h => hG (List.length_eq_zero_iff.1 h))]; simp only [V.within]; exact ioStore_q hG
    · rw [ioStore_pos hG]; simp
    · have hjN : j < N := by rw [← hN]; exact lt_fresh hz
      unfold ioStore ioBase
      split
      · simp only [look_setOb]; rw [if_neg hj2, if_neg hj1]; exact hz
      · simp only [look_setOb]; rw [if_neg (by omega), if_neg hj2, if_neg hj1]; exact hz
end
end Go.Proofs.YtnneehniendnfaaGreat

namespace Go.Proofs.YtnneehniendnfaaGreat
open Go Go.Proofs Go.Proofs.YtnneehniendnfaaGreat.E
set_option linter.unusedSimpArgs false
set_option linter.unusedVariables false
theorem wts_rq (l : List Part) : (l.map fun p => (rawOf p.w.q).c) = (l.map (·.w.q)).map rq := by rw [List.map_map]; rfl
end Go.Proofs.YtnneehniendnfaaGreat
