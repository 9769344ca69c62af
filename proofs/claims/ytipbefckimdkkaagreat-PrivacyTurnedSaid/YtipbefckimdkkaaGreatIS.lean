import Derived.Test.YtipbefckimdkkaaGreatHA
import Derived.Test.YtipbefckimdkkaaGreatHH
namespace Go.Proofs.YtipbefckimdkkaaGreat
open Go Go.Proofs Go.Proofs.YtipbefckimdkkaaGreat.E
set_option linter.unusedSimpArgs false
set_option linter.unusedVariables false
def turnR (p : Part) (l : List Part) : List Part := l.map fun q => ⟨q.v, rawOf (p.w.q * q.w.q)⟩
def turnL (f : Tr → List Part) (a : List Part) : List Part := a.flatMap fun p => turnR p (f p.v)
theorem turnL_take {f : Tr → List Part} {a : List Part} {i : Nat} (h : i < a.length) : turnL f (a.take (i + 1)) = turnL f (a.take i) ++ turnR a[i] (f a[i].v) := by
 unfold turnL; rw [List.take_succ_eq_append_getElem h, List.flatMap_append]; simp
theorem sumBy_flatT {α β : Type} {f : β → Rat} (g : α → List β) (l : List α) : sumBy f (l.flatMap g) = sumBy (fun x => sumBy f (g x)) l := by
 induction l with
 | nil => rfl
 | cons a l ih => rw [List.flatMap_cons, sumBy_append, sumBy_cons, ih]
theorem wtQ_wsum {l : List Part} (hd : Dist l) (v : Tr) : wtQ l v = wsum l v := by
 rw [wtQ_at, ← sum_one hd]; rfl
theorem up_dist {l : List Part} (h : UpP l) : Dist l := by
 unfold Dist
 rw [List.nodup_iff_pairwise_ne, List.pairwise_map]
 refine h.imp fun {p q} hc e => ?_
 rw [e, cmpT_self] at hc; omega
theorem wsum_turn {f : Tr → List Part} {a : List Part} (hf : ∀ p ∈ a, Dist (f p.v)) (u : Tr) : wsum (turnL f a) u = sumBy (fun p => p.w.q * wtQ (f p.v) u) a := by
 unfold turnL wsum
 rw [sumBy_flatT]
 refine sumBy_congr fun p hp => ?_
 rw [wtQ_wsum (hf p hp), turnR, sumBy_map, wsum, ← sumBy_mul]
 refine sumBy_congr fun q _ => ?_
 simp only [rawOf_q]
 split
 ·rfl
 ·rw [Rat.mul_zero]
theorem rest_turned {f : Tr → List Part} {a b : List Part} (ga : Good a) (gb : Good b) (fa : ∀ p ∈ a, Good (f p.v)) (fb : ∀ p ∈ b, Good (f p.v)) {r : Rat} (hr : 0 ≤ r) :
 restQ (normP (turnL f a)) (normP (turnL f b)) r ≤ restQ a b r := by
 have da := dist_of ga.rise
 have db := dist_of gb.rise
 have dX := up_dist (normP_up (turnL f a))
 have dY := up_dist (normP_up (turnL f b))
 have fda : ∀ p ∈ a, Dist (f p.v) := fun p hp => dist_of (fa p hp).rise
 have fdb : ∀ p ∈ b, Dist (f p.v) := fun p hp => dist_of (fb p hp).rise
 have knn : ∀ p ∈ a, ∀ u, 0 ≤ wtQ (f p.v) u := fun p hp u => wtQ_nn (fa p hp).pos u
 have c0 : ∀ u, 0 ≤ sumBy (fun p => posR (p.w.q - r * wtQ b p.v) * wtQ (f p.v) u) a := fun u => sumBy_nn fun p hp => mul_nn (posR_nn _) (knn p hp u)
 have step : ∀ u, posR (wsum (turnL f a) u - r * wsum (turnL f b) u) ≤ sumBy (fun p => posR (p.w.q - r * wtQ b p.v) * wtQ (f p.v) u) a := fun u => by
  refine posR_le ?_ (c0 u)
  have h0 : ∀ v, 0 ≤ (if wtQ b v = 0 then 0 else wtQ b v * wtQ (f v) u) := fun v => by
   split
   ·exact Rat.le_refl
   ·rename_i h
    rcases wtQ_pos gb.pos (v := v) with h1 | ⟨q, hq, e⟩
    ·exact (h h1).elim
    ·rw [← e]; exact mul_nn (wtQ_nn gb.pos _) (wtQ_nn (fb q hq).pos u)
  have other := sum_le_other da db (g := fun v => if wtQ b v = 0 then 0 else wtQ b v * wtQ (f v) u) h0 (fun v hv => by rw [if_pos (wtQ_none hv)])
  have eb : sumBy (fun q => if wtQ b q.v = 0 then 0 else wtQ b q.v * wtQ (f q.v) u) b = sumBy (fun q => q.w.q * wtQ (f q.v) u) b := sumBy_congr fun q hq => by
   have e := wtQ_mem db hq
   split
   ·rename_i h; rw [e] at h; rw [h, Rat.zero_mul]
   ·rw [e]
  have ea : sumBy (fun p => if wtQ b p.v = 0 then 0 else wtQ b p.v * wtQ (f p.v) u) a = sumBy (fun p => wtQ b p.v * wtQ (f p.v) u) a := sumBy_congr fun p hp => by
   split
   ·rename_i h; rw [h, Rat.zero_mul]
   ·rfl
  simp only at other
  rw [eb, ea] at other
  rw [wsum_turn fda, wsum_turn fdb]
  have m := mul_le_l hr other
  have le : sumBy (fun p => p.w.q * wtQ (f p.v) u - r * (wtQ b p.v * wtQ (f p.v) u)) a ≤ sumBy (fun p => posR (p.w.q - r * wtQ b p.v) * wtQ (f p.v) u) a := sumBy_le fun p hp => by
   have h1 := posR_ge (p.w.q - r * wtQ b p.v)
   have h2 := Rat.mul_le_mul_of_nonneg_right h1 (knn p hp u)
   grind
  rw [sumBy_sub, sumBy_mul] at le
  grind
 have e1 : restQ (normP (turnL f a)) (normP (turnL f b)) r = sumBy (fun x => posR (wsum (turnL f a) x.v - r * wsum (turnL f b) x.v)) (normP (turnL f a)) := by
  unfold restQ
  refine sumBy_congr fun x hx => ?_
  rw [(normP_w hx).1, rawOf_q, wtQ_wsum dY, wsum_normP]
 rw [e1]
 refine Rat.le_trans (sumBy_le fun x _ => step x.v) ?_
 rw [sumBy_swap (h := fun (x p : Part) => posR (p.w.q - r * wtQ b p.v) * wtQ (f p.v) x.v)]
 unfold restQ
 refine sumBy_le fun p hp => ?_
 rw [sumBy_mul]
 have one : sumBy (fun x => wtQ (f p.v) x.v) (normP (turnL f a)) ≤ 1 := by
  have g := fa p hp
  have o := sum_le_other dX (fda p hp) (g := fun v => wtQ (f p.v) v) (fun v => wtQ_nn g.pos v) (fun v hv => wtQ_none hv)
  have e : sumBy (fun q => wtQ (f p.v) q.v) (f p.v) = 1 := by
   rw [← g.one, sumQ_by]
   exact sumBy_congr fun q hq => wtQ_mem (fda p hp) hq
  rw [e] at o; exact o
 have := mul_le_l (posR_nn (p.w.q - r * wtQ b p.v)) one
 rw [Rat.mul_one] at this
 exact this
def tbl : List Part → List (List Part) → Tr → List Part
 | p :: f, x :: t, v => if p.v = v then x else tbl f t v
 | _, _, _ => []
theorem tbl_nil (t : List (List Part)) (v : Tr) : tbl [] t v = [] := by cases t <;> rfl
theorem tbl_none (f : List Part) (v : Tr) : tbl f [] v = [] := by cases f <;> rfl
theorem tbl_cons (p : Part) (f : List Part) (x : List Part) (t : List (List Part)) (v : Tr) : tbl (p :: f) (x :: t) v = if p.v = v then x else tbl f t v := rfl
theorem tbl_mem {v : Tr} : ∀ {f : List Part} {t : List (List Part)}, tbl f t v = [] ∨ tbl f t v ∈ t
 | [], t => .inl (tbl_nil t v)
 | p :: f, [] => .inl (tbl_none _ v)
 | p :: f, x :: t => by
   rw [tbl_cons]
   split
   ·exact .inr (by simp)
   ·rcases tbl_mem (v := v) (f := f) (t := t) with h | h
    ·exact .inl h
    ·exact .inr (by simp [h])
theorem turnR_len (p : Part) (l : List Part) : (turnR p l).length = l.length := by simp [turnR]
theorem turnR_take {p : Part} {b : List Part} {j : Nat} (h : j < b.length) : turnR p (b.take (j + 1)) = turnR p (b.take j) ++ [⟨b[j].v, rawOf (p.w.q * b[j].w.q)⟩] := by
 unfold turnR; rw [List.take_succ_eq_append_getElem h, List.map_append]; rfl
theorem turnL_len {f : Tr → List Part} {k : Nat} : ∀ {a : List Part}, (∀ p ∈ a, (f p.v).length ≤ k) → (turnL f a).length ≤ a.length * k
 | [], _ => by simp [turnL]
 | p :: a, h => by
   have e : turnL f (p :: a) = turnR p (f p.v) ++ turnL f a := rfl
   have h1 := h p (by simp)
   have h2 := turnL_len (f := f) (a := a) fun q hq => h q (by simp [hq])
   rw [e, List.length_append, turnR_len, List.length_cons, Nat.add_mul, Nat.one_mul]
   omega
theorem turnL_mem {f : Tr → List Part} {a : List Part} {r : Part} (h : r ∈ turnL f a) : ∃ p ∈ a, ∃ q ∈ f p.v, r = ⟨q.v, rawOf (p.w.q * q.w.q)⟩ := by
 unfold turnL at h
 obtain ⟨p, hp, h⟩ := List.mem_flatMap.1 h
 obtain ⟨q, hq, rfl⟩ := List.mem_map.1 h
 exact ⟨p, hp, q, hq, rfl⟩
theorem turnL_ok {f : Tr → List Part} {a : List Part} {k j : Nat} (hk : 1 ≤ k) (hj : 1 ≤ j) (oa : ∀ p ∈ a, p.Ok k) (of : ∀ p ∈ a, ∀ q ∈ f p.v, q.Ok j) : ∀ r ∈ turnL f a, r.Ok (k + j) := by
 intro r hr
 obtain ⟨p, hp, q, hq, rfl⟩ := turnL_mem hr
 exact ⟨(of p hp q hq).v, rawOf_ok (fits_mul (Raw.fits (oa p hp).w hk) (Raw.fits (of p hp q hq).w hj) hk)⟩
theorem turnL_pos {f : Tr → List Part} {a : List Part} (ha : ∀ p ∈ a, 0 < p.w.q) (hf : ∀ p ∈ a, ∀ q ∈ f p.v, 0 < q.w.q) : ∀ r ∈ turnL f a, 0 < r.w.q := by
 intro r hr
 obtain ⟨p, hp, q, hq, rfl⟩ := turnL_mem hr
 rw [rawOf_q]
 exact Rat.mul_pos (ha p hp) (hf p hp q hq)
theorem turnL_norm {f : Tr → List Part} {a : List Part} : ∀ r ∈ turnL f a, r.w = rawOf r.w.q := by
 intro r hr
 obtain ⟨p, hp, q, hq, rfl⟩ := turnL_mem hr
 rw [rawOf_q]
theorem wsum_nn {l : List Part} (h : ∀ p ∈ l, 0 < p.w.q) (v : Tr) : 0 ≤ wsum l v := by
 unfold wsum
 refine sumBy_nn fun p hp => ?_
 split
 ·exact Rat.le_of_lt (h p hp)
 ·exact Rat.le_refl
theorem wsum_pos : ∀ {l : List Part}, (∀ p ∈ l, 0 < p.w.q) → ∀ {p : Part}, p ∈ l → 0 < wsum l p.v
 | a :: l, h, p, hp => by
   rw [wsum_cons]
   have h0 := wsum_nn (l := l) (fun q hq => h q (by simp [hq])) p.v
   have ha := h a (by simp)
   rcases List.mem_cons.1 hp with rfl | hp
   ·rw [if_pos rfl]; grind
   ·have := wsum_pos (l := l) (fun q hq => h q (by simp [hq])) hp
    split <;> grind
theorem normP_pos {l : List Part} (h : ∀ p ∈ l, 0 < p.w.q) : ∀ p ∈ normP l, 0 < p.w.q := by
 intro p hp
 obtain ⟨q, hq, e⟩ := normP_vals hp
 have h1 := wsum_pos h hq
 rw [e] at h1
 rw [(normP_w hp).1, rawOf_q]
 exact h1
theorem normP_oks {l : List Part} {k : Nat} (hk : 1 ≤ k) (h : ∀ p ∈ l, p.Ok k) : ∀ p ∈ normP l, p.Ok (1 + l.length * (k + 1)) := by
 intro p hp
 obtain ⟨q, hq, e⟩ := normP_vals hp
 refine ⟨by rw [← e]; exact (h q hq).v, ?_⟩
 rw [(normP_w hp).1]
 exact rawOf_ok (wsum_fits hk (fun p hp => Raw.fits (h p hp).w hk) _)
theorem sumQ_wsum {l m : List Part} (hd : Dist m) (hm : ∀ p ∈ m, p.w.q = wsum l p.v) (hv : ∀ p ∈ l, ∃ q ∈ m, q.v = p.v) : sumQ m = sumQ l := by
 have e1 : sumQ m = sumBy (fun x => sumBy (fun p => if p.v = x.v then p.w.q else 0) l) m := by
  rw [sumQ_by]
  exact sumBy_congr fun x hx => hm x hx
 rw [e1, sumBy_swap (h := fun (x p : Part) => if p.v = x.v then p.w.q else 0), sumQ_by]
 refine sumBy_congr fun p hp => ?_
 have e2 : sumBy (fun x : Part => if p.v = x.v then p.w.q else 0) m = sumBy (fun x : Part => if x.v = p.v then p.w.q else 0) m := sumBy_congr fun x _ => by
  by_cases c : p.v = x.v
  ·rw [if_pos c, if_pos c.symm]
  ·rw [if_neg c, if_neg fun e => c e.symm]
 rw [e2, sum_one (f := fun _ => p.w.q) hd]
 obtain ⟨q, hq, e⟩ := hv p hp
 rw [← e, fAt_mem (f := fun _ => p.w.q) hd hq]
theorem normP_sum {l : List Part} (h : ∀ p ∈ l, 0 < p.w.q) : sumQ (normP l) = sumQ l := by
 refine sumQ_wsum (up_dist (normP_up l)) (fun p hp => by rw [(normP_w hp).1, rawOf_q]) fun p hp => ?_
 exact (normP_is l).all p.v (by have := wsum_pos h hp; grind)
theorem turnL_sum {f : Tr → List Part} {a : List Part} (ha : sumQ a = 1) (hf : ∀ p ∈ a, sumQ (f p.v) = 1) : sumQ (turnL f a) = 1 := by
 rw [sumQ_by, turnL, sumBy_flatT, ← ha, sumQ_by]
 refine sumBy_congr fun p hp => ?_
 rw [turnR, sumBy_map]
 have : sumBy (fun x : Part => (rawOf (p.w.q * x.w.q)).q) (f p.v) = sumBy (fun x => p.w.q * x.w.q) (f p.v) := sumBy_congr fun x _ => rawOf_q _
 rw [this, sumBy_mul, ← sumQ_by, hf p hp, Rat.mul_one]
theorem right_vals {l : List Part} (h : rightP l = true) : ∀ p ∈ l, rightT p.v = true := by
 intro p hp
 obtain ⟨i, hi, rfl⟩ := List.getElem_of_mem hp
 simp [rightP] at h
 have := h.1.2 i hi
 rw [partAt_eq hi] at this
 simp at this
 exact this.1.1.1
theorem right_of {l : List Part} (hl : l.length ≤ 60) (hv : ∀ p ∈ l, rightT p.v = true) (hw : ∀ p ∈ l, p.w.right = true) (hp : ∀ p ∈ l, 0 < p.w.q) (hu : UpP l) (h1 : sumQ l = 1) : rightP l = true := by
 simp only [rightP, Bool.and_eq_true, decide_eq_true_eq, List.all_eq_true, List.mem_range]
 refine ⟨⟨hl, fun i hi => ?_⟩, h1⟩
 rw [partAt_eq hi]
 have m := List.getElem_mem hi
 simp only [hv _ m, hw _ m, hp _ m, decide_true, Bool.and_self, Bool.true_and, Bool.or_eq_true, decide_eq_true_eq]
 by_cases h0 : i = 0
 ·exact .inl h0
 ·right
  rw [dif_pos (by omega)]
  have := List.pairwise_iff_getElem.1 hu (i - 1) i (by omega) hi (by omega)
  simpa using this
theorem okMono {p : Raw} {j k : Nat} (h : p.Ok j) (hk : j ≤ k) : p.Ok k := ⟨h.dn, h.dd, Nat.le_trans h.ln hk, Nat.le_trans h.ld hk⟩
theorem turn_right {f : Tr → List Part} {a : List Part} {k : Nat} (hk : 1 ≤ k) (ra : rightP a = true) (rf : ∀ p ∈ a, rightP (f p.v) = true) (oa : ∀ p ∈ a, p.Ok k) (of : ∀ p ∈ a, ∀ q ∈ f p.v, q.Ok k) (hk2 : k ≤ 1000000) (hl : (turnL f a).length ≤ 60) : rightP (normP (turnL f a)) = true := by
 have ga := good_of ra fun p hp => ⟨(oa p hp).v, okMono (oa p hp).w hk2⟩
 have gf : ∀ p ∈ a, Good (f p.v) := fun p hp => good_of (rf p hp) fun q hq => ⟨(of p hp q hq).v, okMono (of p hp q hq).w hk2⟩
 have pos := turnL_pos ga.pos fun p hp => (gf p hp).pos
 refine right_of (Nat.le_trans (normP_len _) hl) (fun p hp => ?_) (fun p hp => ?_) (normP_pos pos) (normP_up _) ?_
 ·obtain ⟨q, hq, e⟩ := normP_vals hp
  obtain ⟨r, hr, s, hs, rfl⟩ := turnL_mem hq
  rw [← e]
  exact right_vals (rf r hr) s hs
 ·have ok := normP_oks (show 1 ≤ k + k by omega) (turnL_ok hk hk oa of) p hp
  rw [Raw.right_iff ok.w, (normP_w hp).1, rawOf_q]
 ·rw [normP_sum pos, turnL_sum ga.one fun p hp => (gf p hp).one]
def joinP (G : List Part) (p : Part) : List Part := match G.getLast? with
 | some q => if q.v = p.v then G.dropLast ++ [⟨q.v, rawOf (q.w.q + p.w.q)⟩] else G ++ [p]
 | none => [p]
theorem joinP_nil (p : Part) : joinP [] p = [p] := rfl
theorem joinP_eq {G : List Part} {q p : Part} (h : q.v = p.v) : joinP (G ++ [q]) p = G ++ [⟨q.v, rawOf (q.w.q + p.w.q)⟩] := by
 unfold joinP; simp [h]
theorem joinP_ne {G : List Part} {q p : Part} (h : q.v ≠ p.v) : joinP (G ++ [q]) p = G ++ [q] ++ [p] := by
 unfold joinP; simp [h]
theorem wsum_snoc (l : List Part) (p : Part) (u : Tr) : wsum (l ++ [p]) u = wsum l u + (if p.v = u then p.w.q else 0) := by
 rw [wsum_append, wsum_cons, wsum_nil, Rat.add_zero]
theorem isN_join {l G : List Part} {p : Part} (h : IsN l G) (hpos : ∀ x ∈ l, 0 < x.w.q) (hp : 0 < p.w.q) (hn : p.w = rawOf p.w.q) (hle : ∀ x ∈ l, cmpT x.v p.v ≤ 0) : IsN (l ++ [p]) (joinP G p) := by
 have app : (∀ x ∈ l, cmpT x.v p.v < 0) → IsN (l ++ [p]) (G ++ [p]) := fun hlt => by
  have := h.group (s := [p]) (v := p.v) (by simp) hlt
  have e : wsum [p] p.v = p.w.q := by rw [wsum_cons, wsum_nil, if_pos rfl, Rat.add_zero]
  rw [e, if_neg (by grind), ← hn] at this
  exact this
 rcases List.eq_nil_or_concat G with rfl | ⟨G', q, hG⟩
 ·rw [joinP_nil]
  refine app fun x hx => ?_
  obtain ⟨y, hy, _⟩ := h.all x.v (by have := wsum_pos hpos hx; grind)
  simp at hy
 ·rw [List.concat_eq_append] at hG
  subst hG
  have hup := List.pairwise_append.1 h.up
  by_cases c : q.v = p.v
  ·rw [joinP_eq c]
   have wq := (h.w q (by simp)).1
   have e1 : q.w.q = wsum l p.v := by rw [wq, rawOf_q, c]
   have e2 : wsum (l ++ [p]) p.v = wsum l p.v + p.w.q := by rw [wsum_snoc, if_pos rfl]
   have nn := wsum_nn hpos p.v
   refine ⟨List.pairwise_append.2 ⟨hup.1, by simp, fun x hx y hy => ?_⟩, fun x hx => ?_, fun u hu => ?_⟩
   ·simp at hy; subst hy
    exact hup.2.2 x hx q (by simp)
   ·rcases List.mem_append.1 hx with hx | hx
    ·have hlt := hup.2.2 x hx q (by simp)
     have hne : p.v ≠ x.v := fun e => by rw [c, e, cmpT_self] at hlt; omega
     rw [wsum_snoc, if_neg hne, Rat.add_zero]
     exact h.w x (by simp [hx])
    ·simp at hx; subst hx
     dsimp only
     rw [c, e2, e1]
     refine ⟨rfl, by grind⟩
   ·by_cases cu : p.v = u
    ·exact ⟨_, List.mem_append.2 (.inr (List.mem_singleton.2 rfl)), by rw [← cu]; exact c⟩
    ·rw [wsum_snoc, if_neg cu, Rat.add_zero] at hu
     obtain ⟨x, hx, e⟩ := h.all u hu
     rcases List.mem_append.1 hx with hx | hx
     ·exact ⟨x, List.mem_append.2 (.inl hx), e⟩
     ·simp at hx; subst hx
      exact (cu (by rw [← e, c])).elim
  ·rw [joinP_ne c]
   refine app fun x hx => ?_
   have hx0 := hle x hx
   by_cases e : cmpT x.v p.v = 0
   ·exfalso
    have ev : x.v = p.v := (cmpT_zero _ _).1 e
    obtain ⟨y, hy, ey⟩ := h.all x.v (by have := wsum_pos hpos hx; grind)
    rcases List.mem_append.1 hy with hy | hy
    ·have h1 := hup.2.2 y hy q (by simp)
     rw [ey, ev] at h1
     obtain ⟨z, hz, ez⟩ := wsum_mem (h.w q (by simp)).2
     have h2 := hle z hz
     rw [ez] at h2
     have h3 := cmpT_neg q.v p.v
     omega
    ·simp at hy; subst hy
     exact c (by rw [ey, ev])
   ·omega
theorem norm_perm {l m : List Part} (h : l.Perm m) : normP l = normP m := normP_ext fun v => wsum_perm h v
end Go.Proofs.YtipbefckimdkkaaGreat
