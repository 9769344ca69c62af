import Derived.Test.YtipbefckimdkkaaGreatGS
namespace Go.Proofs.YtipbefckimdkkaaGreat
open Go Go.Proofs Go.Proofs.YtipbefckimdkkaaGreat.E
set_option linter.unusedSimpArgs false
set_option linter.unusedVariables false
def wsum (l : List Part) (v : Tr) : Rat := sumBy (fun p => if p.v = v then p.w.q else 0) l
theorem wsum_nil (v : Tr) : wsum [] v = 0 := rfl
theorem wsum_cons (p : Part) (l : List Part) (v : Tr) : wsum (p :: l) v = (if p.v = v then p.w.q else 0) + wsum l v := sumBy_cons p l
theorem wsum_append (l m : List Part) (v : Tr) : wsum (l ++ m) v = wsum l v + wsum m v := sumBy_append l m
theorem wsum_perm {l m : List Part} (h : l.Perm m) (v : Tr) : wsum l v = wsum m v := by
 induction h with
 | nil => rfl
 | cons x _ ih => rw [wsum_cons, wsum_cons, ih]
 | swap x y l => simp only [wsum_cons]; grind
 | trans _ _ h1 h2 => rw [h1, h2]
theorem wsum_none {l : List Part} {v : Tr} (h : ∀ p ∈ l, p.v ≠ v) : wsum l v = 0 := by
 induction l with
 | nil => rfl
 | cons p l ih => rw [wsum_cons, if_neg (h p (by simp)), ih fun q hq => h q (by simp [hq]), Rat.add_zero]
theorem wsum_mem {l : List Part} {v : Tr} (h : wsum l v ≠ 0) : ∃ p ∈ l, p.v = v := by
 by_cases hx : ∃ p ∈ l, p.v = v
 ·exact hx
 ·exact (h (wsum_none fun p hp e => hx ⟨p, hp, e⟩)).elim
theorem wsum_fits {l : List Part} {k : Nat} (h1 : 1 ≤ k) (h : ∀ p ∈ l, Fits p.w.q k) (v : Tr) : Fits (wsum l v) (1 + l.length * (k + 1)) := by
 refine sumBy_fits l fun p hp => ?_
 split
 ·exact h p hp
 ·exact fits_zero.mono h1
def UpP (l : List Part) : Prop := l.Pairwise fun a b => cmpT a.v b.v < 0
theorem UpP.eq {l : List Part} (h : UpP l) {p q : Part} (hp : p ∈ l) (hq : q ∈ l) (e : p.v = q.v) : p = q := by
 induction l with
 | nil => simp at hp
 | cons a l ih =>
   obtain ⟨h1, h2⟩ := List.pairwise_cons.1 h
   simp only [List.mem_cons] at hp hq
   rcases hp with rfl | hp <;> rcases hq with rfl | hq
   ·rfl
   ·have := h1 q hq; rw [e, cmpT_self] at this; omega
   ·have := h1 p hp; rw [e, cmpT_self] at this; omega
   ·exact ih h2 hp hq
theorem UpP.ext : ∀ {l m : List Part}, UpP l → UpP m → (∀ p, p ∈ l ↔ p ∈ m) → l = m
 | [], [], _, _, _ => rfl
 | [], b :: m, _, _, h => by have := (h b).2 (by simp); simp at this
 | a :: l, [], _, _, h => by have := (h a).1 (by simp); simp at this
 | a :: l, b :: m, h1, h2, h => by
   obtain ⟨a1, a2⟩ := List.pairwise_cons.1 h1
   obtain ⟨b1, b2⟩ := List.pairwise_cons.1 h2
   have e : a = b := by
    have ha := (h a).1 (by simp)
    have hb := (h b).2 (by simp)
    simp only [List.mem_cons] at ha hb
    rcases ha with ha | ha
    ·exact ha
    rcases hb with hb | hb
    ·exact hb.symm
    have x1 := b1 a ha
    have x2 := a1 b hb
    have x3 := cmpT_neg a.v b.v
    omega
   subst e
   congr 1
   refine UpP.ext a2 b2 fun p => ?_
   constructor
   ·intro hp
    have := (h p).1 (by simp [hp])
    simp only [List.mem_cons] at this
    rcases this with rfl | this
    ·have := a1 p hp; rw [cmpT_self] at this; omega
    ·exact this
   ·intro hp
    have := (h p).2 (by simp [hp])
    simp only [List.mem_cons] at this
    rcases this with rfl | this
    ·have := b1 p hp; rw [cmpT_self] at this; omega
    ·exact this
structure IsN (l G : List Part) : Prop where
 up : UpP G
 w : ∀ p ∈ G, p.w = rawOf (wsum l p.v) ∧ wsum l p.v ≠ 0
 all : ∀ v, wsum l v ≠ 0 → ∃ p ∈ G, p.v = v
theorem IsN.eq {l m G H : List Part} (h : IsN l G) (k : IsN m H) (hw : ∀ v, wsum l v = wsum m v) : G = H := by
 have key : ∀ {l m G H : List Part}, IsN l G → IsN m H → (∀ v, wsum l v = wsum m v) → ∀ p, p ∈ G → p ∈ H := by
  intro l m G H h k hw p hp
  obtain ⟨h1, h2⟩ := h.w p hp
  rw [hw] at h1 h2
  obtain ⟨q, hq, e⟩ := k.all _ h2
  have h3 := (k.w q hq).1
  rw [e] at h3
  have : q = p := by cases p; cases q; simp at *; exact ⟨e, by rw [h3, h1]⟩
  rw [← this]; exact hq
 exact UpP.ext h.up k.up fun p => ⟨key h k hw p, key k h (fun v => (hw v).symm) p⟩
def putP (v : Tr) (w : Rat) : List Part → List Part
 | [] => [⟨v, rawOf w⟩]
 | p :: l => if cmpT v p.v < 0 then ⟨v, rawOf w⟩ :: p :: l else if cmpT v p.v = 0 then ⟨p.v, rawOf (p.w.q + w)⟩ :: l else p :: putP v w l
theorem putP_vals {v : Tr} {w : Rat} {l : List Part} {p : Part} (h : p ∈ putP v w l) : p.v = v ∨ ∃ q ∈ l, q.v = p.v := by
 induction l with
 | nil => simp [putP] at h; exact .inl (by rw [h])
 | cons a l ih =>
   unfold putP at h
   split at h
   ·simp only [List.mem_cons] at h
    rcases h with rfl | rfl | h
    ·exact .inl rfl
    ·exact .inr ⟨p, by simp, rfl⟩
    ·exact .inr ⟨p, by simp [h], rfl⟩
   ·split at h
    ·simp only [List.mem_cons] at h
     rcases h with rfl | h
     ·exact .inr ⟨a, by simp, rfl⟩
     ·exact .inr ⟨p, by simp [h], rfl⟩
    ·simp only [List.mem_cons] at h
     rcases h with rfl | h
     ·exact .inr ⟨p, by simp, rfl⟩
     ·rcases ih h with h | ⟨q, hq, e⟩
      ·exact .inl h
      ·exact .inr ⟨q, by simp [hq], e⟩
theorem putP_up {v : Tr} {w : Rat} : ∀ {l : List Part}, UpP l → UpP (putP v w l)
 | [], _ => by simp [putP, UpP]
 | a :: l, h => by
   obtain ⟨h1, h2⟩ := List.pairwise_cons.1 h
   unfold putP
   split
   ·rename_i hc
    refine List.pairwise_cons.2 ⟨fun q hq => ?_, h⟩
    simp only [List.mem_cons] at hq
    rcases hq with rfl | hq
    ·exact hc
    ·exact cmpT_trans hc (h1 q hq)
   ·split
    ·exact List.pairwise_cons.2 ⟨fun q hq => h1 q hq, h2⟩
    ·rename_i hc hc0
     refine List.pairwise_cons.2 ⟨fun q hq => ?_, putP_up h2⟩
     rcases putP_vals hq with e | ⟨r, hr, e⟩
     ·rw [e]; have := cmpT_neg v a.v; omega
     ·rw [← e]; exact h1 r hr
theorem wsum_putP {v : Tr} {w : Rat} {l : List Part} (u : Tr) : wsum (putP v w l) u = wsum l u + (if v = u then w else 0) := by
 induction l with
 | nil => simp only [putP, wsum_cons, wsum_nil, rawOf_q]; grind
 | cons a l ih =>
   unfold putP
   split
   ·simp only [wsum_cons, rawOf_q]; grind
   ·split
    ·rename_i hc
     have e := (cmpT_zero _ _).1 hc
     simp only [wsum_cons, rawOf_q]
     subst e
     by_cases h : a.v = u
     ·simp only [h, if_true]; grind
     ·simp only [h, if_false]; grind
    ·simp only [wsum_cons, ih]; grind
def fullP (l : List Part) : List Part := l.foldl (fun s p => putP p.v p.w.q s) []
theorem fullP_snoc (l : List Part) (p : Part) : fullP (l ++ [p]) = putP p.v p.w.q (fullP l) := by simp [fullP, List.foldl_append]
theorem snoc_ind {α : Type} {P : List α → Prop} (h0 : P []) (h1 : ∀ l a, P l → P (l ++ [a])) (l : List α) : P l := by
 have : ∀ r : List α, P r.reverse := by
  intro r
  induction r with
  | nil => exact h0
  | cons a r ih => rw [List.reverse_cons]; exact h1 _ _ ih
 have h := this l.reverse
 rwa [List.reverse_reverse] at h
theorem fullP_up (l : List Part) : UpP (fullP l) := by
 refine snoc_ind (P := fun l => UpP (fullP l)) (by simp [fullP, UpP]) (fun l p ih => ?_) l
 rw [fullP_snoc]; exact putP_up ih
theorem wsum_fullP (l : List Part) (v : Tr) : wsum (fullP l) v = wsum l v := by
 refine snoc_ind (P := fun l => wsum (fullP l) v = wsum l v) rfl (fun l p ih => ?_) l
 rw [fullP_snoc, wsum_putP, ih, wsum_append, wsum_cons, wsum_nil, Rat.add_zero]
theorem putP_len {v : Tr} {w : Rat} (l : List Part) : (putP v w l).length ≤ l.length + 1 := by
 induction l with
 | nil => simp [putP]
 | cons a l ih => unfold putP; split <;> (try split) <;> simp <;> omega
theorem fullP_len (l : List Part) : (fullP l).length ≤ l.length := by
 refine snoc_ind (P := fun l => (fullP l).length ≤ l.length) (by simp [fullP]) (fun l p ih => ?_) l
 rw [fullP_snoc, List.length_append]
 have := putP_len (v := p.v) (w := p.w.q) (fullP l)
 simp; omega
theorem putP_norm {v : Tr} {w : Rat} {l : List Part} (h : ∀ p ∈ l, p.w = rawOf p.w.q) : ∀ p ∈ putP v w l, p.w = rawOf p.w.q := by
 induction l with
 | nil => intro p hp; simp [putP] at hp; subst hp; rw [rawOf_q]
 | cons a l ih =>
   unfold putP
   split
   ·intro p hp
    simp only [List.mem_cons] at hp
    rcases hp with rfl | rfl | hp
    ·rw [rawOf_q]
    ·exact h _ (by simp)
    ·exact h _ (by simp [hp])
   ·split
    ·intro p hp
     simp only [List.mem_cons] at hp
     rcases hp with rfl | hp
     ·rw [rawOf_q]
     ·exact h _ (by simp [hp])
    ·intro p hp
     simp only [List.mem_cons] at hp
     rcases hp with rfl | hp
     ·exact h _ (by simp)
     ·exact ih (fun q hq => h q (by simp [hq])) p hp
theorem fullP_norm (l : List Part) : ∀ p ∈ fullP l, p.w = rawOf p.w.q := by
 refine snoc_ind (P := fun l => ∀ p ∈ fullP l, p.w = rawOf p.w.q) (by simp [fullP]) (fun l p ih => ?_) l
 rw [fullP_snoc]; exact putP_norm ih
theorem wsum_up {l : List Part} (h : UpP l) {p : Part} (hp : p ∈ l) : wsum l p.v = p.w.q := by
 induction l with
 | nil => simp at hp
 | cons a l ih =>
   obtain ⟨h1, h2⟩ := List.pairwise_cons.1 h
   rw [wsum_cons]
   simp only [List.mem_cons] at hp
   rcases hp with rfl | hp
   ·rw [if_pos rfl, wsum_none fun q hq e => by have := h1 q hq; rw [e, cmpT_self] at this; omega, Rat.add_zero]
   ·rw [if_neg fun e => by have := h1 p hp; rw [e, cmpT_self] at this; omega, ih h2 hp, Rat.zero_add]
theorem fullP_w {l : List Part} {p : Part} (hp : p ∈ fullP l) : p.w = rawOf (wsum l p.v) := by
 rw [← wsum_fullP, wsum_up (fullP_up l) hp]; exact fullP_norm l p hp
theorem fullP_vals {l : List Part} : ∀ {p : Part}, p ∈ fullP l → ∃ q ∈ l, q.v = p.v := by
 refine snoc_ind (P := fun l => ∀ {p : Part}, p ∈ fullP l → ∃ q ∈ l, q.v = p.v) (by simp [fullP]) (fun l a ih p hp => ?_) l
 rw [fullP_snoc] at hp
 rcases putP_vals hp with e | ⟨q, hq, e⟩
 ·exact ⟨a, by simp, e.symm⟩
 ·obtain ⟨r, hr, e2⟩ := ih hq
  exact ⟨r, by simp [hr], by rw [e2, e]⟩
def normP (l : List Part) : List Part := (fullP l).filter fun p => decide (p.w.q ≠ 0)
theorem normP_is (l : List Part) : IsN l (normP l) := by
 refine ⟨(fullP_up l).filter _, fun p hp => ?_, fun v hv => ?_⟩
 ·unfold normP at hp
  rw [List.mem_filter] at hp
  have h2 := fullP_w hp.1
  refine ⟨h2, ?_⟩
  have h3 := hp.2
  rw [h2, rawOf_q] at h3
  simpa using h3
 ·rw [← wsum_fullP] at hv
  obtain ⟨p, hp, e⟩ := wsum_mem hv
  refine ⟨p, ?_, e⟩
  unfold normP
  rw [List.mem_filter]
  refine ⟨hp, ?_⟩
  subst e
  rw [wsum_up (fullP_up l) hp] at hv
  simpa using hv
theorem IsN.norm {l G : List Part} (h : IsN l G) : G = normP l := h.eq (normP_is l) fun _ => rfl
theorem normP_ext {l m : List Part} (h : ∀ v, wsum l v = wsum m v) : normP l = normP m := (normP_is l).eq (normP_is m) h
theorem wsum_normP (l : List Part) (v : Tr) : wsum (normP l) v = wsum l v := by
 have h := normP_is l
 by_cases hv : wsum l v = 0
 ·rw [hv]
  by_cases hx : ∃ p ∈ normP l, p.v = v
  ·obtain ⟨p, hp, rfl⟩ := hx
   exact ((h.w p hp).2 hv).elim
  ·exact wsum_none fun p hp e => hx ⟨p, hp, e⟩
 ·obtain ⟨p, hp, rfl⟩ := h.all v hv
  rw [wsum_up h.up hp, (h.w p hp).1, rawOf_q]
theorem normP_len (l : List Part) : (normP l).length ≤ l.length := Nat.le_trans (List.length_filter_le _ _) (fullP_len l)
theorem normP_vals {l : List Part} {p : Part} (hp : p ∈ normP l) : ∃ q ∈ l, q.v = p.v := by
 unfold normP at hp
 exact fullP_vals (List.mem_filter.1 hp).1
theorem normP_w {l : List Part} {p : Part} (hp : p ∈ normP l) : p.w = rawOf (wsum l p.v) ∧ wsum l p.v ≠ 0 := (normP_is l).w p hp
theorem normP_up (l : List Part) : UpP (normP l) := (normP_is l).up
theorem IsN.group {l s G : List Part} {v : Tr} (h : IsN l G) (hs : ∀ p ∈ s, p.v = v) (hl : ∀ p ∈ l, cmpT p.v v < 0) : IsN (l ++ s) (if wsum s v = 0 then G else G ++ [⟨v, rawOf (wsum s v)⟩]) := by
 have e0 : wsum l v = 0 := wsum_none fun p hp e => by have := hl p hp; rw [e, cmpT_self] at this; omega
 have e1 : ∀ u, u ≠ v → wsum s u = 0 := fun u hu => wsum_none fun p hp e => hu (by rw [← e, hs p hp])
 have e2 : ∀ u, wsum (l ++ s) u = if u = v then wsum s v else wsum l u := fun u => by
  rw [wsum_append]
  split
  ·rename_i h; rw [h, e0, Rat.zero_add]
  ·rename_i h; rw [e1 u h, Rat.add_zero]
 have gv : ∀ p ∈ G, cmpT p.v v < 0 := fun p hp => by
  obtain ⟨q, hq, e⟩ := wsum_mem (h.w p hp).2
  rw [← e]; exact hl q hq
 have gn : ∀ p ∈ G, p.v ≠ v := fun p hp e => by have := gv p hp; rw [e, cmpT_self] at this; omega
 by_cases hz : wsum s v = 0
 ·rw [if_pos hz]
  have e3 : ∀ u, wsum (l ++ s) u = wsum l u := fun u => by
   rw [e2]; split
   ·rename_i h; rw [h, hz, e0]
   ·rfl
  exact ⟨h.up, fun p hp => by rw [e3]; exact h.w p hp, fun u hu => h.all u (by rwa [e3] at hu)⟩
 ·rw [if_neg hz]
  refine ⟨List.pairwise_append.2 ⟨h.up, by simp, fun p hp q hq => ?_⟩, fun p hp => ?_, fun u hu => ?_⟩
  ·simp at hq; subst hq; exact gv p hp
  ·rcases List.mem_append.1 hp with hp | hp
   ·rw [e2, if_neg (gn p hp)]; exact h.w p hp
   ·simp at hp; subst hp; rw [e2, if_pos rfl]; exact ⟨rfl, hz⟩
  ·by_cases huv : u = v
   ·subst huv; exact ⟨_, List.mem_append.2 (.inr (List.mem_singleton.2 rfl)), rfl⟩
   ·rw [e2, if_neg huv] at hu
    obtain ⟨p, hp, e⟩ := h.all u hu
    exact ⟨p, List.mem_append.2 (.inl hp), e⟩
theorem IsN.nil : IsN [] [] := ⟨List.Pairwise.nil, by simp, fun v hv => (hv (wsum_nil v)).elim⟩
structure Moved (f : Nat → Nat) (L M : List Part) : Prop where
 len : M.length = L.length
 get : ∀ k, k < L.length → M[k]? = L[f k]?
 perm : M.Perm L
theorem Moved.refl (L : List Part) : Moved id L L := ⟨rfl, fun _ _ => rfl, .refl _⟩
theorem Moved.trans {f g h : Nat → Nat} {L X M : List Part} (a : Moved f L X) (b : Moved g X M) (hg : ∀ k, k < L.length → g k < L.length ∧ f (g k) = h k) : Moved h L M := by
 refine ⟨b.len.trans a.len, fun k hk => ?_, b.perm.trans a.perm⟩
 obtain ⟨h1, h2⟩ := hg k hk
 rw [b.get k (by rw [a.len]; exact hk), a.get _ h1, h2]
theorem Moved.congr {f g : Nat → Nat} {L M : List Part} (a : Moved f L M) (h : ∀ k, k < L.length → f k = g k) : Moved g L M := ⟨a.len, fun k hk => by rw [a.get k hk, h k hk], a.perm⟩
theorem Moved.getE {f : Nat → Nat} {L M : List Part} (a : Moved f L M) {k : Nat} (h1 : k < M.length) (h2 : f k < L.length) : M[k] = L[f k] := by
 have := a.get k (by rw [← a.len]; exact h1)
 rw [List.getElem?_eq_getElem h1, List.getElem?_eq_getElem h2] at this
 exact Option.some.inj this
def swF (i j k : Nat) : Nat := if k = i then j else if k = j then i else k
theorem swap_perm {L : List Part} {i j : Nat} (hi : i < L.length) (hj : j < L.length) : ((L.set i L[j]).set j L[i]).Perm L := by
 have h := Array.swap_perm (xs := L.toArray) (i := i) (j := j) (by simpa using hi) (by simpa using hj)
 have h2 := h.toList
 simpa [Array.swap] using h2
theorem moved_swap {L : List Part} {i j : Nat} (hi : i < L.length) (hj : j < L.length) : Moved (swF i j) L ((L.set i L[j]).set j L[i]) := by
 refine ⟨by simp, fun k hk => ?_, swap_perm hi hj⟩
 rw [List.getElem?_set, List.getElem?_set]
 simp only [List.length_set]
 unfold swF
 by_cases h1 : j = k
 ·subst h1
  rw [if_pos rfl, if_pos hj]
  split
  ·rename_i e; subst e; rw [List.getElem?_eq_getElem]
  ·rw [if_pos rfl, List.getElem?_eq_getElem hi]
 ·rw [if_neg h1]
  by_cases h2 : i = k
  ·subst h2; rw [if_pos rfl, if_pos hi, if_pos rfl, List.getElem?_eq_getElem hj]
  ·rw [if_neg h2, if_neg (fun e => h2 e.symm), if_neg (fun e => h1 e.symm)]
def exF (a b n k : Nat) : Nat := if a ≤ k ∧ k < a + n then k + b - a else if b ≤ k ∧ k < b + n then k + a - b else k
theorem exF_zero (a b k : Nat) : exF a b 0 k = k := by
 unfold exF; repeat' split
 all_goals omega
theorem exF_step {a b n len : Nat} (h1 : a + (n + 1) ≤ b) (h2 : b + (n + 1) ≤ len) {L X Y : List Part} (hl : L.length = len) (h : Moved (exF a b n) L X) (hy : Moved (swF (a + n) (b + n)) X Y) : Moved (exF a b (n + 1)) L Y := by
 refine h.trans hy fun k hk => ?_
 unfold swF exF
 constructor
 ·repeat' split
  all_goals omega
 ·repeat' split
  all_goals omega
def roF (a m b k : Nat) : Nat := if a ≤ k ∧ k < a + (b - m) then k + m - a else if a + (b - m) ≤ k ∧ k < b then k - (b - m) else k
theorem roF_one {a m k : Nat} (h : a ≤ m) : roF a m m k = k := by
 unfold roF; repeat' split
 all_goals omega
theorem roF_nil {a b k : Nat} (h : a ≤ b) : roF a a b k = k := by
 unfold roF; repeat' split
 all_goals omega
theorem rot_end {m i len : Nat} (h1 : i ≤ m) (h2 : m + i ≤ len) {L M : List Part} (hl : L.length = len) (h : Moved (exF (m - i) m i) L M) : Moved (roF (m - i) m (m + i)) L M := by
 refine h.congr fun k hk => ?_
 unfold exF roF
 repeat' split
 all_goals omega
theorem rot_front {m i j len : Nat} (h1 : j < i) (h2 : i ≤ m) (h3 : m + j ≤ len) {L X M : List Part} (hl : L.length = len) (h : Moved (exF (m - i) m j) L X) (k : Moved (roF (m - (i - j)) m (m + j)) X M) : Moved (roF (m - i) m (m + j)) L M := by
 refine h.trans k fun k hk => ?_
 unfold exF roF
 constructor
 ·repeat' split
  all_goals omega
 ·repeat' split
  all_goals omega
theorem rot_back {m i j len : Nat} (h1 : i < j) (h2 : i ≤ m) (h3 : m + j ≤ len) {L X M : List Part} (hl : L.length = len) (h : Moved (exF (m - i) (m + j - i) i) L X) (k : Moved (roF (m - i) m (m + (j - i))) X M) : Moved (roF (m - i) m (m + j)) L M := by
 refine h.trans k fun k hk => ?_
 unfold exF roF
 constructor
 ·repeat' split
  all_goals omega
 ·repeat' split
  all_goals omega
def SR (L : List Part) (a b : Nat) : Prop := ∀ i j x y, a ≤ i → i < j → j < b → L[i]? = some x → L[j]? = some y → cmpT x.v y.v ≤ 0
theorem cmpT_le_trans {a b c : Tr} (h1 : cmpT a b ≤ 0) (h2 : cmpT b c ≤ 0) : cmpT a c ≤ 0 := by
 by_cases e1 : cmpT a b = 0
 ·rw [(cmpT_zero _ _).1 e1]; exact h2
 by_cases e2 : cmpT b c = 0
 ·rw [← (cmpT_zero _ _).1 e2]; exact h1
 have := cmpT_trans (show cmpT a b < 0 by omega) (show cmpT b c < 0 by omega)
 omega
theorem SR.mono {L : List Part} {a b c d : Nat} (h : SR L a b) (h1 : a ≤ c) (h2 : d ≤ b) : SR L c d := fun i j x y h3 h4 h5 => h i j x y (by omega) h4 (by omega)
theorem SR.le {L : List Part} {a b : Nat} (h : SR L a b) {i j : Nat} {x y : Part} (h1 : a ≤ i) (h2 : i ≤ j) (h3 : j < b) (hx : L[i]? = some x) (hy : L[j]? = some y) : cmpT x.v y.v ≤ 0 := by
 by_cases e : i = j
 ·subst e; rw [hx] at hy; injection hy with hy; subst hy; rw [cmpT_self]; omega
 ·exact h i j x y h1 (by omega) h3 hx hy
theorem SR.short {L : List Part} {a b : Nat} (h : b ≤ a + 1) : SR L a b := fun i j x y h1 h2 h3 => by omega
structure Mrg (a b : Nat) (L M : List Part) : Prop where
 len : M.length = L.length
 out : ∀ k, k < a ∨ b ≤ k → M[k]? = L[k]?
 inn : ∀ k, a ≤ k → k < b → ∃ j, a ≤ j ∧ j < b ∧ M[k]? = L[j]?
 perm : M.Perm L
 srt : SR M a b
theorem Mrg.refl {L : List Part} {a b : Nat} (h : SR L a b) : Mrg a b L L := ⟨rfl, fun _ _ => rfl, fun k h1 h2 => ⟨k, h1, h2, rfl⟩, .refl _, h⟩
theorem SR.congr {L M : List Part} {a b : Nat} (h : SR L a b) (e : ∀ k, a ≤ k → k < b → M[k]? = L[k]?) : SR M a b := fun i j x y h1 h2 h3 hx hy => h i j x y h1 h2 h3 (by rw [← e i h1 (by omega)]; exact hx) (by rw [← e j (by omega) h3]; exact hy)
theorem mrg_first {L M : List Part} {a b i : Nat} (h0 : a + 1 ≤ i) (hib : i ≤ b) (hb : b ≤ L.length) (hs : SR L (a + 1) b) (x : Part) (hx : L[a]? = some x) (h1 : ∀ k y, a + 1 ≤ k → k < i → L[k]? = some y → cmpT y.v x.v < 0) (h2 : ∀ k y, i ≤ k → k < b → L[k]? = some y → 0 ≤ cmpT y.v x.v) (hm : Moved (roF a (a + 1) i) L M) : Mrg a b L M := by
 have hf : ∀ k, roF a (a + 1) i k = if a ≤ k ∧ k + 1 < i then k + 1 else if k + 1 = i then a else k := by
  intro k; unfold roF; repeat' split
  all_goals omega
 have hg : ∀ k, k < L.length → M[k]? = L[if a ≤ k ∧ k + 1 < i then k + 1 else if k + 1 = i then a else k]? := fun k hk => by rw [hm.get k hk, hf]
 refine ⟨hm.len, fun k hk => ?_, fun k k1 k2 => ⟨_, ?_, ?_, hg k (by omega)⟩, hm.perm, ?_⟩
 ·by_cases hk' : k < L.length
  ·rw [hg k hk', if_neg (by omega), if_neg (by omega)]
  ·rw [List.getElem?_eq_none (by rw [hm.len]; omega), List.getElem?_eq_none (by omega)]
 ·repeat' split
  all_goals omega
 ·repeat' split
  all_goals omega
 ·intro p q y z p1 p2 p3 hy hz
  rw [hg p (by omega)] at hy
  rw [hg q (by omega)] at hz
  by_cases c1 : q + 1 < i
  ·rw [if_pos (by omega)] at hy hz
   exact hs _ _ _ _ (by omega) (by omega) (by omega) hy hz
  ·by_cases c2 : q + 1 = i
   ·rw [if_neg (by omega), if_pos c2, hx] at hz
    injection hz with hz; subst hz
    rw [if_pos (by omega)] at hy
    have := h1 _ _ (by omega) (by omega) hy
    omega
   ·rw [if_neg (by omega), if_neg c2] at hz
    by_cases c3 : p + 1 < i
    ·rw [if_pos (by omega)] at hy
     exact hs _ _ _ _ (by omega) (by omega) (by omega) hy hz
    ·by_cases c4 : p + 1 = i
     ·rw [if_neg (by omega), if_pos c4, hx] at hy
      injection hy with hy; subst hy
      have := h2 _ _ (by omega) (by omega) hz
      have := cmpT_neg x.v z.v
      omega
     ·rw [if_neg (by omega), if_neg c4] at hy
      exact hs _ _ _ _ (by omega) (by omega) (by omega) hy hz
theorem mrg_last {L M : List Part} {a m i : Nat} (h0 : a ≤ i) (him : i ≤ m) (hb : m + 1 ≤ L.length) (hs : SR L a m) (x : Part) (hx : L[m]? = some x) (h1 : ∀ k y, a ≤ k → k < i → L[k]? = some y → 0 ≤ cmpT x.v y.v) (h2 : ∀ k y, i ≤ k → k < m → L[k]? = some y → cmpT x.v y.v < 0) (hm : Moved (roF i m (m + 1)) L M) : Mrg a (m + 1) L M := by
 have hf : ∀ k, roF i m (m + 1) k = if k = i then m else if i < k ∧ k ≤ m then k - 1 else k := by
  intro k; unfold roF; repeat' split
  all_goals omega
 have hg : ∀ k, k < L.length → M[k]? = L[if k = i then m else if i < k ∧ k ≤ m then k - 1 else k]? := fun k hk => by rw [hm.get k hk, hf]
 refine ⟨hm.len, fun k hk => ?_, fun k k1 k2 => ⟨_, ?_, ?_, hg k (by omega)⟩, hm.perm, ?_⟩
 ·by_cases hk' : k < L.length
  ·rw [hg k hk', if_neg (by omega), if_neg (by omega)]
  ·rw [List.getElem?_eq_none (by rw [hm.len]; omega), List.getElem?_eq_none (by omega)]
 ·repeat' split
  all_goals omega
 ·repeat' split
  all_goals omega
 ·intro p q y z p1 p2 p3 hy hz
  rw [hg p (by omega)] at hy
  rw [hg q (by omega)] at hz
  by_cases c1 : p = i
  ·rw [if_pos c1, hx] at hy
   injection hy with hy; subst hy
   rw [if_neg (by omega), if_pos (by omega)] at hz
   have := h2 _ _ (by omega) (by omega) hz
   omega
  ·by_cases c2 : q = i
   ·rw [if_pos c2, hx] at hz
    injection hz with hz; subst hz
    rw [if_neg c1, if_neg (by omega)] at hy
    have := h1 _ _ (by omega) (by omega) hy
    have := cmpT_neg x.v y.v
    omega
   ·rw [if_neg c1] at hy
    rw [if_neg c2] at hz
    refine hs (if i < p ∧ p ≤ m then p - 1 else p) (if i < q ∧ q ≤ m then q - 1 else q) y z ?_ ?_ ?_ hy hz
    ·split <;> omega
    ·repeat' split
     all_goals omega
    ·split <;> omega
theorem mrg_step {L X Y Z : List Part} {a m b s mid en : Nat} (ham : a ≤ m) (hmb : m ≤ b) (hbl : b ≤ L.length) (hm1 : a ≤ mid) (hm2 : mid ≤ b) (hs1 : a ≤ s) (hs2 : s ≤ m) (hs3 : s ≤ mid) (he1 : m ≤ en) (he2 : en ≤ b) (hsum : s + en = mid + m)
 (sa : SR L a m) (sb : SR L m b)
 (c1 : a < s → en < b → ∀ x y, L[s - 1]? = some x → L[en]? = some y → cmpT x.v y.v ≤ 0)
 (c2 : s < m → m < en → ∀ x y, L[en - 1]? = some x → L[s]? = some y → cmpT x.v y.v ≤ 0)
 (hX : Moved (roF s m en) L X) (hY : SR X a s → SR X s mid → Mrg a mid X Y) (hZ : SR Y mid en → SR Y en b → Mrg mid b Y Z) : Mrg a b L Z := by
 have hf : ∀ k, k < L.length → X[k]? = L[if s ≤ k ∧ k < mid then k + m - s else if mid ≤ k ∧ k < en then k - (en - m) else k]? := fun k hk => by
  rw [hX.get k hk]; congr 1; unfold roF; repeat' split
  all_goals omega
 have x1 : SR X a s := sa.mono (Nat.le_refl _) hs2 |>.congr fun k k1 k2 => by rw [hf k (by omega), if_neg (by omega), if_neg (by omega)]
 have x2 : SR X s mid := fun i j x y h1 h2 h3 hx hy => by
  rw [hf i (by omega), if_pos (by omega)] at hx
  rw [hf j (by omega), if_pos (by omega)] at hy
  exact sb _ _ _ _ (by omega) (by omega) (by omega) hx hy
 have x3 : SR X mid en := fun i j x y h1 h2 h3 hx hy => by
  rw [hf i (by omega), if_neg (by omega), if_pos (by omega)] at hx
  rw [hf j (by omega), if_neg (by omega), if_pos (by omega)] at hy
  exact sa _ _ _ _ (by omega) (by omega) (by omega) hx hy
 have x4 : SR X en b := sb.mono he1 (Nat.le_refl _) |>.congr fun k k1 k2 => by rw [hf k (by omega), if_neg (by omega), if_neg (by omega)]
 have MY := hY x1 x2
 have y3 : SR Y mid en := x3.congr fun k k1 k2 => MY.out k (by omega)
 have y4 : SR Y en b := x4.congr fun k k1 k2 => MY.out k (by omega)
 have MZ := hZ y3 y4
 have lX := hX.len
 have lY := MY.len
 have lZ := MZ.len
 -- all of the first half is at most all of the second
 have cross : ∀ i j x y, a ≤ i → i < mid → mid ≤ j → j < b → X[i]? = some x → X[j]? = some y → cmpT x.v y.v ≤ 0 := by
  intro i j x y h1 h2 h3 h4 hx hy
  rw [hf i (by omega)] at hx
  rw [hf j (by omega)] at hy
  by_cases i1 : i < s
  ·rw [if_neg (by omega), if_neg (by omega)] at hx
   by_cases j1 : j < en
   ·rw [if_neg (by omega), if_pos (by omega)] at hy
    exact sa _ _ _ _ h1 (by omega) (by omega) hx hy
   ·rw [if_neg (by omega), if_neg (by omega)] at hy
    have hs0 : s - 1 < L.length := by omega
    have he0 : en < L.length := by omega
    have t1 := sa.le (j := s - 1) h1 (by omega) (by omega) hx (List.getElem?_eq_getElem hs0)
    have t2 := c1 (by omega) (by omega) _ _ (List.getElem?_eq_getElem hs0) (List.getElem?_eq_getElem he0)
    have t3 := sb.le (i := en) (by omega) (by omega) h4 (List.getElem?_eq_getElem he0) hy
    exact cmpT_le_trans t1 (cmpT_le_trans t2 t3)
  ·rw [if_pos (by omega)] at hx
   by_cases j1 : j < en
   ·rw [if_neg (by omega), if_pos (by omega)] at hy
    have hs0 : s < L.length := by omega
    have he0 : en - 1 < L.length := by omega
    have t1 := sb.le (j := en - 1) (by omega) (by omega) (by omega) hx (List.getElem?_eq_getElem he0)
    have t2 := c2 (by omega) (by omega) _ _ (List.getElem?_eq_getElem he0) (List.getElem?_eq_getElem hs0)
    have t3 := sa.le (i := s) (by omega) (by omega) (by omega) (List.getElem?_eq_getElem hs0) hy
    exact cmpT_le_trans t1 (cmpT_le_trans t2 t3)
   ·rw [if_neg (by omega), if_neg (by omega)] at hy
    exact sb _ _ _ _ (by omega) (by omega) (by omega) hx hy
 refine ⟨by omega, fun k hk => ?_, fun k k1 k2 => ?_, MZ.perm.trans (MY.perm.trans hX.perm), fun i j x y h1 h2 h3 hx hy => ?_⟩
 ·rw [MZ.out k (by omega), MY.out k (by omega)]
  by_cases hk' : k < L.length
  ·rw [hf k hk', if_neg (by omega), if_neg (by omega)]
  ·rw [List.getElem?_eq_none (by omega), List.getElem?_eq_none (by omega)]
 ·have inX : ∀ k, a ≤ k → k < b → ∃ j, a ≤ j ∧ j < b ∧ X[k]? = L[j]? := fun k k1 k2 => by
   refine ⟨_, ?_, ?_, hf k (by omega)⟩
   ·repeat' split
    all_goals omega
   ·repeat' split
    all_goals omega
  have inY : ∀ k, a ≤ k → k < b → ∃ j, a ≤ j ∧ j < b ∧ Y[k]? = X[j]? := fun k k1 k2 => by
   by_cases h : k < mid
   ·obtain ⟨j, j1, j2, e⟩ := MY.inn k k1 h
    exact ⟨j, j1, by omega, e⟩
   ·exact ⟨k, k1, k2, MY.out k (by omega)⟩
  have inZ : ∀ k, a ≤ k → k < b → ∃ j, a ≤ j ∧ j < b ∧ Z[k]? = Y[j]? := fun k k1 k2 => by
   by_cases h : k < mid
   ·exact ⟨k, k1, k2, MZ.out k (by omega)⟩
   ·obtain ⟨j, j1, j2, e⟩ := MZ.inn k (by omega) k2
    exact ⟨j, by omega, j2, e⟩
  obtain ⟨p, p1, p2, e1⟩ := inZ k k1 k2
  obtain ⟨q, q1, q2, e2⟩ := inY p p1 p2
  obtain ⟨r, r1, r2, e3⟩ := inX q q1 q2
  exact ⟨r, r1, r2, by rw [e1, e2, e3]⟩
 ·by_cases hj : j < mid
  ·rw [MZ.out i (by omega)] at hx
   rw [MZ.out j (by omega)] at hy
   exact MY.srt i j x y h1 h2 hj hx hy
  ·by_cases hi : mid ≤ i
   ·exact MZ.srt i j x y hi h2 h3 hx hy
   ·rw [MZ.out i (by omega)] at hx
    obtain ⟨p, p1, p2, e1⟩ := MY.inn i h1 (by omega)
    obtain ⟨q, q1, q2, e2⟩ := MZ.inn j (by omega) h3
    rw [e1] at hx
    rw [e2, MY.out q (by omega)] at hy
    exact cross p q x y p1 p2 q1 q2 hx hy
theorem Mrg.then {a b c d : Nat} {L X Y : List Part} (h : Mrg a b L X) (k : Mrg c d X Y) (h1 : c ≤ a) (h2 : b ≤ d) : Mrg c d L Y := by
 refine ⟨k.len.trans h.len, fun j hj => ?_, fun j j1 j2 => ?_, k.perm.trans h.perm, k.srt⟩
 ·rw [k.out j hj, h.out j (by omega)]
 ·obtain ⟨p, p1, p2, e⟩ := k.inn j j1 j2
  by_cases hp : a ≤ p ∧ p < b
  ·obtain ⟨q, q1, q2, e2⟩ := h.inn p hp.1 hp.2
   exact ⟨q, by omega, by omega, by rw [e, e2]⟩
  ·exact ⟨p, p1, p2, by rw [e, h.out p (by omega)]⟩
theorem ro_back {i j : Nat} {X Y Z : List Part} (h0 : 0 < j) (hj : j ≤ i) (hi : i < X.length) (h : Moved (roF j i (i + 1)) X Y) (hz : Moved (swF j (j - 1)) Y Z) : Moved (roF (j - 1) i (i + 1)) X Z := by
 refine h.trans hz fun k hk => ?_
 unfold swF roF
 constructor
 ·repeat' split
  all_goals omega
 ·repeat' split
  all_goals omega
theorem ro_on {a k : Nat} {X Y Z : List Part} (ha : a ≤ k) (hk : k + 1 < X.length) (h : Moved (roF a (a + 1) (k + 1)) X Y) (hz : Moved (swF k (k + 1)) Y Z) : Moved (roF a (a + 1) (k + 1 + 1)) X Z := by
 refine h.trans hz fun p hp => ?_
 unfold swF roF
 constructor
 ·repeat' split
  all_goals omega
 ·repeat' split
  all_goals omega
theorem mrg_parts {L X : List Part} {a m b s mid en : Nat} (hbl : b ≤ L.length) (hs1 : a ≤ s) (hs2 : s ≤ m) (hs3 : s ≤ mid) (he1 : m ≤ en) (he2 : en ≤ b) (hsum : s + en = mid + m) (sa : SR L a m) (sb : SR L m b) (hX : Moved (roF s m en) L X) : SR X a s ∧ SR X s mid ∧ SR X mid en ∧ SR X en b := by
 have hf : ∀ k, k < L.length → X[k]? = L[if s ≤ k ∧ k < mid then k + m - s else if mid ≤ k ∧ k < en then k - (en - m) else k]? := fun k hk => by
  rw [hX.get k hk]; congr 1; unfold roF; repeat' split
  all_goals omega
 refine ⟨?_, ?_, ?_, ?_⟩
 ·exact sa.mono (Nat.le_refl _) hs2 |>.congr fun k k1 k2 => by rw [hf k (by omega), if_neg (by omega), if_neg (by omega)]
 ·intro i j x y h1 h2 h3 hx hy
  rw [hf i (by omega), if_pos (by omega)] at hx
  rw [hf j (by omega), if_pos (by omega)] at hy
  exact sb _ _ _ _ (by omega) (by omega) (by omega) hx hy
 ·intro i j x y h1 h2 h3 hx hy
  rw [hf i (by omega), if_neg (by omega), if_pos (by omega)] at hx
  rw [hf j (by omega), if_neg (by omega), if_pos (by omega)] at hy
  exact sa _ _ _ _ (by omega) (by omega) (by omega) hx hy
 ·exact sb.mono he1 (Nat.le_refl _) |>.congr fun k k1 k2 => by rw [hf k (by omega), if_neg (by omega), if_neg (by omega)]
theorem Mrg.behind {a b c d : Nat} {X Y : List Part} (h : Mrg a b X Y) (k : SR X c d) (hc : b ≤ c) : SR Y c d := k.congr fun j j1 j2 => h.out j (by omega)
theorem Mrg.halves {X : List Part} {a s b : Nat} (h1 : SR X a s) (h2 : SR X s b) (h : ¬ (a < s ∧ s < b)) (ha : a ≤ s) (hb : s ≤ b) : Mrg a b X X := by
 refine Mrg.refl ?_
 by_cases e : a < s
 ·have : s = b := by omega
  subst this; exact h1
 ·have : a = s := by omega
  subst this; exact h2
def Bl (s : Nat) (X : List Part) (u : Nat) : Prop := ∀ k p q x y, k * s ≤ p → p < q → q < (k + 1) * s → q < u → X[p]? = some x → X[q]? = some y → cmpT x.v y.v ≤ 0
theorem Bl.zero (s : Nat) (X : List Part) : Bl s X 0 := fun k p q x y _ _ _ h => by omega
theorem bl_le {s k j : Nat} (h : k < j) : (k + 1) * s ≤ j * s := Nat.mul_le_mul_right _ h
theorem bl_ge {s k j : Nat} (h : j ≤ k) : j * s ≤ k * s := Nat.mul_le_mul_right _ h
theorem Bl.step {s a b j : Nat} {X Y : List Part} (h : Bl s X a) (hm : Mrg a b X Y) (ha : a = j * s) : Bl s Y b := by
 intro k p q x y h1 h2 h3 h4 hx hy
 by_cases c : k < j
 ·have := bl_le (s := s) c
  rw [hm.out p (by omega)] at hx
  rw [hm.out q (by omega)] at hy
  exact h k p q x y h1 h2 h3 (by omega) hx hy
 ·have := bl_ge (s := s) (show j ≤ k by omega)
  exact hm.srt p q x y (by omega) h2 h4 hx hy
theorem Bl.keep {s a b u j l : Nat} {X Y : List Part} (h : Bl s X u) (hm : Mrg a b X Y) (ha : a = j * s) (hb : b = l * s ∨ b = u) : Bl s Y u := by
 intro k p q x y h1 h2 h3 h4 hx hy
 by_cases c : k < j
 ·have := bl_le (s := s) c
  rw [hm.out p (by omega)] at hx
  rw [hm.out q (by omega)] at hy
  exact h k p q x y h1 h2 h3 h4 hx hy
 ·have := bl_ge (s := s) (show j ≤ k by omega)
  rcases hb with hb | hb
  ·by_cases c2 : k < l
   ·have := bl_le (s := s) c2
    exact hm.srt p q x y (by omega) h2 (by omega) hx hy
   ·have := bl_ge (s := s) (show l ≤ k by omega)
    rw [hm.out p (by omega)] at hx
    rw [hm.out q (by omega)] at hy
    exact h k p q x y h1 h2 h3 h4 hx hy
  ·exact hm.srt p q x y (by omega) h2 (by omega) hx hy
theorem Bl.last {s a u k : Nat} {X : List Part} (h2 : Bl (2 * s) X a) (h1 : Bl s X u) (ha : a = k * (2 * s)) (hu : u ≤ a + s) : Bl (2 * s) X u := by
 intro k' p q x y g1 g2 g3 g4 hx hy
 by_cases c : k' < k
 ·have := bl_le (s := 2 * s) c
  exact h2 k' p q x y g1 g2 g3 (by omega) hx hy
 ·have := bl_ge (s := 2 * s) (show k ≤ k' by omega)
  have e : k * (2 * s) = (2 * k) * s := by rw [Nat.mul_comm 2 k, Nat.mul_assoc]
  have e2 : (2 * k + 1) * s = (2 * k) * s + s := by rw [Nat.add_mul, Nat.one_mul]
  exact h1 (2 * k) p q x y (by omega) g2 (by omega) g4 hx hy
theorem Bl.sr {s u k : Nat} {X : List Part} (h : Bl s X u) {a b : Nat} (ha : k * s ≤ a) (hb : b ≤ (k + 1) * s) (hu : b ≤ u) : SR X a b := fun i j x y h1 h2 h3 hx hy => h k i j x y (by omega) h2 (by omega) (by omega) hx hy
end Go.Proofs.YtipbefckimdkkaaGreat
