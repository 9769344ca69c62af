import Derived.Test.YtipbefckimdkkaaGreatHA
import Derived.Test.YtipbefckimdkkaaGreatHH
namespace Go.Proofs.YtipbefckimdkkaaGreat
open Go Go.Proofs Go.Proofs.YtipbefckimdkkaaGreat.E
set_option linter.unusedSimpArgs false
set_option linter.unusedVariables false
def turnR (p : Part) (l : List Part) : List Part := l.map fun q => ⟨q.v, rawOf (p.w.q * q.w.q)⟩
def turnL (f : Tr → List Part) (a : List Part) : List Part := a.flatMap fun p => turnR p (f p.v)
theorem turnL_take {f : Tr → List Part} {a : List Part} {i : Nat} (h : i < a.length) : turnL f (a.take (i + 1)) = turnL f (a.take i) ++ turnR a[i] (f a[i].v) := by
 unfold turnL; rw [List.take_succ_eq_append_getElem h, List.flatMap_append]; simp
theorem sumBy_flatT {α β : Type} {f : β → Rat} (g : α → List β) (l : List α) : sumBy f (l.flatMap g) = sumBy (fun x => sumBy f (g x)) l := by
 induction l with
 | nil => rfl
 | cons a l ih => rw [List.flatMap_cons, sumBy_append, sumBy_cons, ih]
theorem up_dist {l : List Part} (h : UpP l) : Dist l := by
 unfold Dist
 rw [List.nodup_iff_pairwise_ne, List.pairwise_map]
 refine h.imp fun {p q} hc e => ?_
 rw [e, cmpT_self] at hc; omega
def tbl : List Part → List (List Part) → Tr → List Part
 | p :: f, x :: t, v => if p.v = v then x else tbl f t v
 | _, _, _ => []
theorem tbl_nil (t : List (List Part)) (v : Tr) : tbl [] t v = [] := by cases t <;> rfl
theorem tbl_none (f : List Part) (v : Tr) : tbl f [] v = [] := by cases f <;> rfl
theorem tbl_cons (p : Part) (f : List Part) (x : List Part) (t : List (List Part)) (v : Tr) : tbl (p :: f) (x :: t) v = if p.v = v then x else tbl f t v := rfl
theorem tbl_mem {v : Tr} : ∀ {f : List Part} {t : List (List Part)}, tbl f t v = [] ∨ tbl f t v ∈ t
 | [], t => .inl (tbl_nil t v)
 | p :: f, [] => .inl (tbl_none _ v)
 | p :: f, x :: t => by
   rw [tbl_cons]
   split
   ·exact .inr (by simp)
   ·rcases tbl_mem (v := v) (f := f) (t := t) with h | h
    ·exact .inl h
    ·exact .inr (by simp [h])
theorem tbl_at : ∀ {f : List Part} {t : List (List Part)} {i : Nat}, Dist f → (h : i < f.length) → tbl f t f[i].v = t.getD i []
 | [], _, _, _, h => by simp at h
 | p :: f, [], i, _, h => by rw [tbl_none]; simp
 | p :: f, x :: t, i, hd, h => by
   rw [tbl_cons]
   unfold Dist at hd
   rw [List.map_cons, List.nodup_cons] at hd
   cases i with
   | zero => simp
   | succ i =>
     have h' : i < f.length := by simpa using h
     rw [if_neg]
     ·exact tbl_at hd.2 h'
     ·intro e
      exact hd.1 (List.mem_map.2 ⟨f[i], List.getElem_mem h', e.symm⟩)
def turnZ : List Part → List (List Part) → List Part
 | p :: l, x :: f => turnR p x ++ turnZ l f
 | _, _ => []
theorem turnZ_map (g : Tr → List Part) : ∀ l : List Part, turnZ l (l.map fun p => g p.v) = turnL g l
 | [] => rfl
 | p :: l => by
   show turnR p (g p.v) ++ turnZ l (l.map fun p => g p.v) = _
   rw [turnZ_map g l]; rfl
theorem turnZ_take : ∀ {l : List Part} {f : List (List Part)} {i : Nat} (h1 : i < l.length) (h2 : i < f.length), turnZ (l.take (i + 1)) (f.take (i + 1)) = turnZ (l.take i) (f.take i) ++ turnR l[i] f[i]
 | [], _, _, h, _ => by simp at h
 | p :: l, [], _, _, h => by simp at h
 | p :: l, x :: f, 0, _, _ => by simp [turnZ]
 | p :: l, x :: f, i + 1, h1, h2 => by
   have := turnZ_take (l := l) (f := f) (i := i) (by simpa using h1) (by simpa using h2)
   simp only [List.take_succ_cons, turnZ, List.getElem_cons_succ, List.append_assoc]
   rw [this]
theorem turnR_len (p : Part) (l : List Part) : (turnR p l).length = l.length := by simp [turnR]
theorem turnR_take {p : Part} {b : List Part} {j : Nat} (h : j < b.length) : turnR p (b.take (j + 1)) = turnR p (b.take j) ++ [⟨b[j].v, rawOf (p.w.q * b[j].w.q)⟩] := by
 unfold turnR; rw [List.take_succ_eq_append_getElem h, List.map_append]; rfl
theorem turnL_len {f : Tr → List Part} {k : Nat} : ∀ {a : List Part}, (∀ p ∈ a, (f p.v).length ≤ k) → (turnL f a).length ≤ a.length * k
 | [], _ => by simp [turnL]
 | p :: a, h => by
   have e : turnL f (p :: a) = turnR p (f p.v) ++ turnL f a := rfl
   have h1 := h p (by simp)
   have h2 := turnL_len (f := f) (a := a) fun q hq => h q (by simp [hq])
   rw [e, List.length_append, turnR_len, List.length_cons, Nat.add_mul, Nat.one_mul]
   omega
theorem turnL_mem {f : Tr → List Part} {a : List Part} {r : Part} (h : r ∈ turnL f a) : ∃ p ∈ a, ∃ q ∈ f p.v, r = ⟨q.v, rawOf (p.w.q * q.w.q)⟩ := by
 unfold turnL at h
 obtain ⟨p, hp, h⟩ := List.mem_flatMap.1 h
 obtain ⟨q, hq, rfl⟩ := List.mem_map.1 h
 exact ⟨p, hp, q, hq, rfl⟩
theorem turnL_ok {f : Tr → List Part} {a : List Part} {k j : Nat} (hk : 1 ≤ k) (hj : 1 ≤ j) (oa : ∀ p ∈ a, p.Ok k) (of : ∀ p ∈ a, ∀ q ∈ f p.v, q.Ok j) : ∀ r ∈ turnL f a, r.Ok (k + j) := by
 intro r hr
 obtain ⟨p, hp, q, hq, rfl⟩ := turnL_mem hr
 exact ⟨(of p hp q hq).v, rawOf_ok (fits_mul (Raw.fits (oa p hp).w hk) (Raw.fits (of p hp q hq).w hj) hk)⟩
theorem turnL_pos {f : Tr → List Part} {a : List Part} (ha : ∀ p ∈ a, 0 < p.w.q) (hf : ∀ p ∈ a, ∀ q ∈ f p.v, 0 < q.w.q) : ∀ r ∈ turnL f a, 0 < r.w.q := by
 intro r hr
 obtain ⟨p, hp, q, hq, rfl⟩ := turnL_mem hr
 rw [rawOf_q]
 exact Rat.mul_pos (ha p hp) (hf p hp q hq)
theorem turnL_norm {f : Tr → List Part} {a : List Part} : ∀ r ∈ turnL f a, r.w = rawOf r.w.q := by
 intro r hr
 obtain ⟨p, hp, q, hq, rfl⟩ := turnL_mem hr
 rw [rawOf_q]
theorem wsum_nn {l : List Part} (h : ∀ p ∈ l, 0 < p.w.q) (v : Tr) : 0 ≤ wsum l v := by
 unfold wsum
 refine sumBy_nn fun p hp => ?_
 split
 ·exact Rat.le_of_lt (h p hp)
 ·exact Rat.le_refl
theorem wsum_pos : ∀ {l : List Part}, (∀ p ∈ l, 0 < p.w.q) → ∀ {p : Part}, p ∈ l → 0 < wsum l p.v
 | a :: l, h, p, hp => by
   rw [wsum_cons]
   have h0 := wsum_nn (l := l) (fun q hq => h q (by simp [hq])) p.v
   have ha := h a (by simp)
   rcases List.mem_cons.1 hp with rfl | hp
   ·rw [if_pos rfl]; grind
   ·have := wsum_pos (l := l) (fun q hq => h q (by simp [hq])) hp
    split <;> grind
theorem norm_full {l : List Part} (h : ∀ p ∈ l, 0 < p.w.q) : normP l = fullP l := by
 unfold normP
 rw [List.filter_eq_self]
 intro p hp
 obtain ⟨q, hq, e⟩ := fullP_vals hp
 have h1 := wsum_pos h hq
 rw [e] at h1
 rw [fullP_w hp, rawOf_q]
 have : wsum l p.v ≠ 0 := by grind
 simp [this]
theorem normP_oks {l : List Part} {k : Nat} (hk : 1 ≤ k) (h : ∀ p ∈ l, p.Ok k) : ∀ p ∈ normP l, p.Ok (1 + l.length * (k + 1)) := by
 intro p hp
 obtain ⟨q, hq, e⟩ := normP_vals hp
 refine ⟨by rw [← e]; exact (h q hq).v, ?_⟩
 rw [(normP_w hp).1]
 exact rawOf_ok (wsum_fits hk (fun p hp => Raw.fits (h p hp).w hk) _)
theorem sumQ_wsum {l m : List Part} (hd : Dist m) (hm : ∀ p ∈ m, p.w.q = wsum l p.v) (hv : ∀ p ∈ l, ∃ q ∈ m, q.v = p.v) : sumQ m = sumQ l := by
 have e1 : sumQ m = sumBy (fun x => sumBy (fun p => if p.v = x.v then p.w.q else 0) l) m := by
  rw [sumQ_by]
  exact sumBy_congr fun x hx => hm x hx
 rw [e1, sumBy_swap (h := fun (x p : Part) => if p.v = x.v then p.w.q else 0), sumQ_by]
 refine sumBy_congr fun p hp => ?_
 have e2 : sumBy (fun x : Part => if p.v = x.v then p.w.q else 0) m = sumBy (fun x : Part => if x.v = p.v then p.w.q else 0) m := sumBy_congr fun x _ => by
  by_cases c : p.v = x.v
  ·rw [if_pos c, if_pos c.symm]
  ·rw [if_neg c, if_neg fun e => c e.symm]
 rw [e2, sum_one (f := fun _ => p.w.q) hd]
 obtain ⟨q, hq, e⟩ := hv p hp
 rw [← e, fAt_mem (f := fun _ => p.w.q) hd hq]
theorem normP_sum {l : List Part} (h : ∀ p ∈ l, 0 < p.w.q) : sumQ (normP l) = sumQ l := by
 refine sumQ_wsum (up_dist (normP_up l)) (fun p hp => by rw [(normP_w hp).1, rawOf_q]) fun p hp => ?_
 exact (normP_is l).all p.v (by have := wsum_pos h hp; grind)
theorem turnL_sum {f : Tr → List Part} {a : List Part} (ha : sumQ a = 1) (hf : ∀ p ∈ a, sumQ (f p.v) = 1) : sumQ (turnL f a) = 1 := by
 rw [sumQ_by, turnL, sumBy_flatT, ← ha, sumQ_by]
 refine sumBy_congr fun p hp => ?_
 rw [turnR, sumBy_map]
 have : sumBy (fun x : Part => (rawOf (p.w.q * x.w.q)).q) (f p.v) = sumBy (fun x => p.w.q * x.w.q) (f p.v) := sumBy_congr fun x _ => rawOf_q _
 rw [this, sumBy_mul, ← sumQ_by, hf p hp, Rat.mul_one]
theorem okMono {p : Raw} {j k : Nat} (h : p.Ok j) (hk : j ≤ k) : p.Ok k := ⟨h.dn, h.dd, Nat.le_trans h.ln hk, Nat.le_trans h.ld hk⟩
def joinP (G : List Part) (p : Part) : List Part := match G.getLast? with
 | some q => if q.v = p.v then G.dropLast ++ [⟨q.v, rawOf (q.w.q + p.w.q)⟩] else G ++ [p]
 | none => [p]
theorem joinP_nil (p : Part) : joinP [] p = [p] := rfl
theorem joinP_eq {G : List Part} {q p : Part} (h : q.v = p.v) : joinP (G ++ [q]) p = G ++ [⟨q.v, rawOf (q.w.q + p.w.q)⟩] := by
 unfold joinP; simp [h]
theorem joinP_ne {G : List Part} {q p : Part} (h : q.v ≠ p.v) : joinP (G ++ [q]) p = G ++ [q] ++ [p] := by
 unfold joinP; simp [h]
theorem wsum_snoc (l : List Part) (p : Part) (u : Tr) : wsum (l ++ [p]) u = wsum l u + (if p.v = u then p.w.q else 0) := by
 rw [wsum_append, wsum_cons, wsum_nil, Rat.add_zero]
theorem isN_join {l G : List Part} {p : Part} (h : IsN l G) (hpos : ∀ x ∈ l, 0 < x.w.q) (hp : 0 < p.w.q) (hn : p.w = rawOf p.w.q) (hle : ∀ x ∈ l, cmpT x.v p.v ≤ 0) : IsN (l ++ [p]) (joinP G p) := by
 have app : (∀ x ∈ l, cmpT x.v p.v < 0) → IsN (l ++ [p]) (G ++ [p]) := fun hlt => by
  have := h.group (s := [p]) (v := p.v) (by simp) hlt
  have e : wsum [p] p.v = p.w.q := by rw [wsum_cons, wsum_nil, if_pos rfl, Rat.add_zero]
  rw [e, if_neg (by grind), ← hn] at this
  exact this
 rcases List.eq_nil_or_concat G with rfl | ⟨G', q, hG⟩
 ·rw [joinP_nil]
  refine app fun x hx => ?_
  obtain ⟨y, hy, _⟩ := h.all x.v (by have := wsum_pos hpos hx; grind)
  simp at hy
 ·rw [List.concat_eq_append] at hG
  subst hG
  have hup := List.pairwise_append.1 h.up
  by_cases c : q.v = p.v
  ·rw [joinP_eq c]
   have wq := (h.w q (by simp)).1
   have e1 : q.w.q = wsum l p.v := by rw [wq, rawOf_q, c]
   have e2 : wsum (l ++ [p]) p.v = wsum l p.v + p.w.q := by rw [wsum_snoc, if_pos rfl]
   have nn := wsum_nn hpos p.v
   refine ⟨List.pairwise_append.2 ⟨hup.1, by simp, fun x hx y hy => ?_⟩, fun x hx => ?_, fun u hu => ?_⟩
   ·simp at hy; subst hy
    exact hup.2.2 x hx q (by simp)
   ·rcases List.mem_append.1 hx with hx | hx
    ·have hlt := hup.2.2 x hx q (by simp)
     have hne : p.v ≠ x.v := fun e => by rw [c, e, cmpT_self] at hlt; omega
     rw [wsum_snoc, if_neg hne, Rat.add_zero]
     exact h.w x (by simp [hx])
    ·simp at hx; subst hx
     dsimp only
     rw [c, e2, e1]
     refine ⟨rfl, by grind⟩
   ·by_cases cu : p.v = u
    ·exact ⟨_, List.mem_append.2 (.inr (List.mem_singleton.2 rfl)), by rw [← cu]; exact c⟩
    ·rw [wsum_snoc, if_neg cu, Rat.add_zero] at hu
     obtain ⟨x, hx, e⟩ := h.all u hu
     rcases List.mem_append.1 hx with hx | hx
     ·exact ⟨x, List.mem_append.2 (.inl hx), e⟩
     ·simp at hx; subst hx
      exact (cu (by rw [← e, c])).elim
  ·rw [joinP_ne c]
   refine app fun x hx => ?_
   have hx0 := hle x hx
   by_cases e : cmpT x.v p.v = 0
   ·exfalso
    have ev : x.v = p.v := (cmpT_zero _ _).1 e
    obtain ⟨y, hy, ey⟩ := h.all x.v (by have := wsum_pos hpos hx; grind)
    rcases List.mem_append.1 hy with hy | hy
    ·have h1 := hup.2.2 y hy q (by simp)
     rw [ey, ev] at h1
     obtain ⟨z, hz, ez⟩ := wsum_mem (h.w q (by simp)).2
     have h2 := hle z hz
     rw [ez] at h2
     have h3 := cmpT_neg q.v p.v
     omega
    ·simp at hy; subst hy
     exact c (by rw [ey, ev])
   ·omega
theorem norm_perm {l m : List Part} (h : l.Perm m) : normP l = normP m := normP_ext fun v => wsum_perm h v
end Go.Proofs.YtipbefckimdkkaaGreat
