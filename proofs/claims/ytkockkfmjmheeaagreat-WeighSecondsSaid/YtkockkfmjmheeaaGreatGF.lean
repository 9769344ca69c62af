set_option linter.unusedVariables false
namespace Go.Proofs.YtkockkfmjmheeaaGreat.E
def val : List Int → Int
 | [] => 0
 | d :: l => d + 4294967296 * val l
def Dig (l : List Int) : Prop := ∀ d ∈ l, 0 ≤ d ∧ d < 4294967296
def digs (n : Int) : List Int := if h : n ≤ 0 then [] else n % 4294967296 :: digs (n / 4294967296)
termination_by n.toNat
decreasing_by omega
@[simp] theorem val_nil : val [] = 0 := rfl
@[simp] theorem val_cons (d : Int) (l : List Int) : val (d :: l) = d + 4294967296 * val l := rfl
theorem digs_le {n : Int} (h : n ≤ 0) : digs n = [] := by unfold digs; simp [h]
@[simp] theorem digs_zero : digs 0 = [] := digs_le (by decide)
theorem digs_pos {n : Int} (h : 0 < n) : digs n = n % 4294967296 :: digs (n / 4294967296) := by rw [digs]; rw [dif_neg (by omega)]
theorem Dig.nil : Dig [] := by simp [Dig]
theorem Dig.cons {d : Int} {l : List Int} (h0 : 0 ≤ d) (h : d < 4294967296) (hl : Dig l) : Dig (d :: l) := by
 intro x hx
 rcases List.mem_cons.1 hx with rfl | hx
 ·exact ⟨h0, h⟩
 ·exact hl x hx
theorem Dig.tail {d : Int} {l : List Int} (h : Dig (d :: l)) : Dig l := fun x hx => h x (by simp [hx])
theorem Dig.head {d : Int} {l : List Int} (h : Dig (d :: l)) : 0 ≤ d ∧ d < 4294967296 := h d (by simp)
theorem Dig.append {a b : List Int} (ha : Dig a) (hb : Dig b) : Dig (a ++ b) := fun x hx => by
 rcases List.mem_append.1 hx with h | h
 ·exact ha x h
 ·exact hb x h
theorem Dig.snoc {a : List Int} {d : Int} (ha : Dig a) (h0 : 0 ≤ d) (h : d < 4294967296) : Dig (a ++ [d]) := ha.append (Dig.cons h0 h Dig.nil)
theorem Dig.take {l : List Int} (h : Dig l) (n : Nat) : Dig (l.take n) := fun x hx => h x (List.mem_of_mem_take hx)
theorem Dig.drop {l : List Int} (h : Dig l) (n : Nat) : Dig (l.drop n) := fun x hx => h x (List.mem_of_mem_drop hx)
theorem Dig.get {l : List Int} (h : Dig l) {i : Nat} (hi : i < l.length) : 0 ≤ l[i] ∧ l[i] < 4294967296 := h _ (List.getElem_mem hi)
theorem Dig.set {l : List Int} (h : Dig l) (i : Nat) {d : Int} (h0 : 0 ≤ d) (hd : d < 4294967296) : Dig (l.set i d) := fun x hx => by
 rcases List.mem_or_eq_of_mem_set hx with hx | rfl
 ·exact h x hx
 ·exact ⟨h0, hd⟩
theorem Dig.replicate (n : Nat) : Dig (List.replicate n 0) := fun x hx => by
 rw [List.mem_replicate] at hx; rw [hx.2]; decide
theorem digs_ind {p : Int → Prop} (h0 : ∀ n, n ≤ 0 → p n) (h1 : ∀ n, 0 < n → p (n / 4294967296) → p n) (n : Int) : p n := by
 by_cases h : n ≤ 0
 ·exact h0 n h
 ·have : ∀ k : Nat, ∀ n : Int, n ≤ k → p n := by
   intro k
   induction k with
   | zero => intro n hn; exact h0 n hn
   | succ k ih =>
     intro n hn
     by_cases h : n ≤ 0
     ·exact h0 n h
     ·exact h1 n (by omega) (ih _ (by omega))
  exact this n.toNat n (by omega)
theorem digs_dig (n : Int) : Dig (digs n) := by
 induction n using digs_ind with
 | h0 n h => rw [digs_le h]; exact Dig.nil
 | h1 n h ih => rw [digs_pos h]; exact Dig.cons (by omega) (by omega) ih
@[simp] theorem val_digs' (n : Int) : val (digs n) = max n 0 := by
  induction n using digs_ind with
  | h0 n h => rw [digs_le h]; simp; omega
  | h1 n h ih => rw [digs_pos h, val_cons, ih]; omega
theorem val_digs {n : Int} (h : 0 ≤ n) : val (digs n) = n := by rw [val_digs']; omega
theorem digs_inj {m n : Int} (hm : 0 ≤ m) (hn : 0 ≤ n) (h : digs m = digs n) : m = n := by
 rw [← val_digs hm, h, val_digs hn]
theorem val_append (a b : List Int) : val (a ++ b) = val a + 4294967296 ^ a.length * val b := by
 induction a with
 | nil => simp
 | cons d a ih =>
   simp only [List.cons_append, val_cons, ih, List.length_cons]
   rw [Int.pow_succ, Int.mul_add, Int.mul_comm (4294967296 ^ a.length) 4294967296, Int.mul_assoc]
   omega
theorem val_snoc (a : List Int) (d : Int) : val (a ++ [d]) = val a + 4294967296 ^ a.length * d := by rw [val_append]; simp
theorem B_pow_pos (n : Nat) : 0 < (4294967296 : Int) ^ n := Int.pow_pos (by decide)
theorem val_nonneg {l : List Int} (h : Dig l) : 0 ≤ val l := by
 induction l with
 | nil => simp
 | cons d l ih =>
   have h1 := ih h.tail
   have h2 := h.head
   rw [val_cons]; omega
theorem val_lt {l : List Int} (h : Dig l) : val l < 4294967296 ^ l.length := by
 induction l with
 | nil => simp
 | cons d l ih =>
   have h1 := ih h.tail
   have h2 := h.head
   simp only [val_cons, List.length_cons]
   rw [Int.pow_succ]
   omega
@[simp] theorem val_replicate (n : Nat) : val (List.replicate n 0) = 0 := by
  induction n with
  | zero => rfl
  | succ n ih => simp [List.replicate_succ, ih]
theorem val_take_succ {l : List Int} {i : Nat} (h : i < l.length) : val (l.take (i + 1)) = val (l.take i) + 4294967296 ^ i * l[i] := by
 rw [List.take_succ_eq_append_getElem h, val_snoc]
 simp [Nat.min_eq_left (Nat.le_of_lt h)]
def cut0 (l : List Int) : Nat → Nat
 | 0 => 0
 | n + 1 => if l[n]? = some 0 then cut0 l n else n + 1
theorem cut0_le (l : List Int) (n : Nat) : cut0 l n ≤ n := by
 induction n with
 | zero => simp [cut0]
 | succ n ih => simp only [cut0]; split <;> omega
theorem digs_val : ∀ {l : List Int}, Dig l → (∀ (h : l ≠ []), l.getLast h ≠ 0) → digs (val l) = l
 | [], _, _ => by simp
 | d :: l, hd, hz => by
   have ih : digs (val l) = l := digs_val hd.tail fun h => by
    have := hz (by simp)
    rwa [List.getLast_cons h] at this
   have hdB := hd.head
   have hv := val_nonneg hd.tail
   have h1 : (d + 4294967296 * val l) % 4294967296 = d := by omega
   have h2 : (d + 4294967296 * val l) / 4294967296 = val l := by omega
   have hne : 0 < d + 4294967296 * val l := by
    by_cases hd0 : d = 0
    ·by_cases hv0 : val l = 0
     ·rw [hv0] at ih
      simp at ih
      subst ih
      exact absurd hd0 (hz (by simp))
     ·omega
    ·omega
   rw [val_cons, digs_pos hne, h1, h2, ih]
theorem cut0_spec : ∀ (l : List Int) (n : Nat), n ≤ l.length → val (l.take (cut0 l n)) = val (l.take n) ∧ (∀ (h : l.take (cut0 l n) ≠ []), (l.take (cut0 l n)).getLast h ≠ 0)
 | l, 0, _ => by simp [cut0]
 | l, n + 1, hn => by
   have hlt : n < l.length := by omega
   obtain ⟨ih1, ih2⟩ := cut0_spec l n (by omega)
   by_cases h : l[n] = 0
   ·have e : cut0 l (n + 1) = cut0 l n := by simp [cut0, hlt, h]
    rw [e]
    refine ⟨?_, ih2⟩
    rw [ih1, val_take_succ hlt, h]
    simp
   ·have e : cut0 l (n + 1) = n + 1 := by simp [cut0, hlt, h]
    rw [e]
    refine ⟨rfl, fun hh => ?_⟩
    have : l.take (n + 1) = l.take n ++ [l[n]] := List.take_succ_eq_append_getElem hlt
    simp only [this, List.getLast_append, List.getLast_singleton]
    simpa using h
theorem trim_eq {l : List Int} (h : Dig l) : l.take (cut0 l l.length) = digs (val l) := by
 obtain ⟨h1, h2⟩ := cut0_spec l l.length (Nat.le_refl _)
 rw [List.take_length] at h1
 rw [← h1]
 exact (digs_val (h.take _) h2).symm
theorem cut0_all {l : List Int} (h : 0 < l.length) : cut0 l l.length = l.length ↔ l[l.length - 1] ≠ 0 := by
 obtain ⟨n, hn⟩ : ∃ n, l.length = n + 1 := ⟨l.length - 1, by omega⟩
 have hlt : n < l.length := by omega
 have e : l[l.length - 1] = l[n] := by congr 1; omega
 rw [e, hn]
 have := cut0_le l n
 by_cases h : l[n] = 0
 ·simp [cut0, hlt, h]; omega
 ·simp [cut0, hlt, h]
theorem digs_last {l : List Int} (h : Dig l) (hp : 0 < l.length) : l = digs (val l) ↔ l[l.length - 1] ≠ 0 := by
 rw [← cut0_all hp, ← trim_eq h]
 have := cut0_le l l.length
 constructor
 ·intro e
  have := congrArg List.length e
  rw [List.length_take] at this
  omega
 ·intro e
  rw [e, List.take_length]
theorem digs_length_le {n : Int} {k : Nat} (h : n < 4294967296 ^ k) : (digs n).length ≤ k := by
 induction k generalizing n with
 | zero => rw [digs_le (by simp at h; omega)]; simp
 | succ k ih =>
   by_cases h0 : n ≤ 0
   ·rw [digs_le h0]; simp
   ·rw [digs_pos (by omega), List.length_cons]
    have : n / 4294967296 < 4294967296 ^ k := by
     rw [Int.pow_succ] at h
     exact Int.ediv_lt_of_lt_mul (by decide) h
    have := ih this
    omega
theorem digs_le_of {l : List Int} (h : Dig l) : (digs (val l)).length ≤ l.length := digs_length_le (val_lt h)
theorem digs_pow {n : Int} (h : 0 ≤ n) : n < 4294967296 ^ (digs n).length := by
 have := val_lt (digs_dig n)
 rwa [val_digs h] at this
theorem digs_ge {n : Int} : 0 < n → 4294967296 ^ ((digs n).length - 1) ≤ n := by
 induction n using digs_ind with
 | h0 n h => intro h'; omega
 | h1 n h ih =>
   intro _
   rw [digs_pos h, List.length_cons, Nat.add_sub_cancel]
   by_cases h1 : n / 4294967296 ≤ 0
   ·rw [digs_le h1]; simp; omega
   ·have := ih (by omega)
    have hl : (digs (n / 4294967296)).length = (digs (n / 4294967296)).length - 1 + 1 := by
     rw [digs_pos (by omega), List.length_cons]; omega
    rw [hl, Int.pow_succ]
    have : 4294967296 ^ ((digs (n / 4294967296)).length - 1) * 4294967296 ≤ n / 4294967296 * 4294967296 := Int.mul_le_mul_of_nonneg_right this (by decide)
    omega
theorem digs_length_mono {m n : Int} (hn : 0 ≤ n) (h : m ≤ n) : (digs m).length ≤ (digs n).length := digs_length_le (Int.lt_of_le_of_lt h (digs_pow hn))
theorem digs_nil_iff {n : Int} : digs n = [] ↔ n ≤ 0 := by
 constructor
 ·intro h
  by_cases h0 : n ≤ 0
  ·exact h0
  ·rw [digs_pos (by omega)] at h; simp at h
 ·exact digs_le
def digsN : Nat → Int → List Int
 | 0, _ => []
 | n + 1, x => x % 4294967296 :: digsN n (x / 4294967296)
@[simp] theorem digsN_length (n : Nat) (x : Int) : (digsN n x).length = n := by
  induction n generalizing x with
  | zero => rfl
  | succ n ih => simp [digsN, ih]
theorem digsN_dig (n : Nat) (x : Int) : Dig (digsN n x) := by
 induction n generalizing x with
 | zero => exact Dig.nil
 | succ n ih => exact Dig.cons (by omega) (by omega) (ih _)
theorem digsN_eq : ∀ {o : List Int}, Dig o → o = digsN o.length (val o)
 | [], _ => rfl
 | d :: o, h => by
   have h1 := h.head
   have e1 : (d + 4294967296 * val o) % 4294967296 = d := by omega
   have e2 : (d + 4294967296 * val o) / 4294967296 = val o := by omega
   simp only [List.length_cons, digsN, val_cons, e1, e2]
   rw [← digsN_eq h.tail]
theorem val_digsN {n : Nat} {x : Int} (h0 : 0 ≤ x) (h : x < 4294967296 ^ n) : val (digsN n x) = x := by
 induction n generalizing x with
 | zero => simp at h; simp [digsN]; omega
 | succ n ih =>
   simp only [digsN, val_cons]
   rw [ih (by omega) (by rw [Int.pow_succ] at h; exact Int.ediv_lt_of_lt_mul (by decide) h)]
   omega
theorem val_split {l : List Int} {k : Nat} (h : k ≤ l.length) : val l = val (l.take k) + 4294967296 ^ k * val (l.drop k) := by
 have := val_append (l.take k) (l.drop k)
 rw [List.take_append_drop, List.length_take, Nat.min_eq_left h] at this
 exact this
theorem val_lt_of {l m : List Int} (hl : Dig l) (hm : Dig m) {k : Nat} (h1 : k < l.length) (h2 : k < m.length) (hd : l.drop (k + 1) = m.drop (k + 1)) (h : l[k] < m[k]) : val l < val m := by
 rw [val_split (Nat.le_of_lt h1), val_split (Nat.le_of_lt h2), List.drop_eq_getElem_cons h1, List.drop_eq_getElem_cons h2, hd, val_cons, val_cons]
 have a1 := val_lt (hl.take k)
 rw [List.length_take, Nat.min_eq_left (Nat.le_of_lt h1)] at a1
 have a2 := val_nonneg (hm.take k)
 have p := B_pow_pos k
 generalize (4294967296 : Int) ^ k = q at *
 generalize val (List.drop (k + 1) m) = t at *
 have : q * (l[k] + 1) ≤ q * m[k] := Int.mul_le_mul_of_nonneg_left (by omega) (by omega)
 rw [Int.mul_add] at this
 rw [Int.mul_add, Int.mul_add]
 omega
theorem val_set {l : List Int} {j : Nat} (h : j < l.length) (d : Int) : val (l.set j d) = val l + 4294967296 ^ j * (d - l[j]) := by
 rw [val_split (l := l.set j d) (k := j) (by simp; omega), val_split (l := l) (k := j) (by omega)]
 rw [List.take_set_of_le (Nat.le_refl _), List.drop_eq_getElem_cons (by simpa using h), List.drop_eq_getElem_cons h]
 simp only [val_cons, List.getElem_set_self, List.drop_set]
 rw [if_pos (by omega)]
 generalize (4294967296 : Int) ^ j = p
 generalize l[j] = x
 generalize val (List.drop (j + 1) l) = t
 generalize val (List.take j l) = s
 grind
theorem mul_bound {x y : Int} (hx : 0 ≤ x ∧ x < 4294967296) (hy : 0 ≤ y ∧ y < 4294967296) : 0 ≤ x * y ∧ x * y ≤ 18446744065119617025 := by
 refine ⟨Int.mul_nonneg hx.1 hy.1, ?_⟩
 have := Int.mul_le_mul (show x ≤ 4294967295 by omega) (show y ≤ 4294967295 by omega) hy.1 (by omega)
 omega
theorem take_set_lt {l : List Int} {i n : Nat} (d : Int) : (l.set i d).take n = (l.take n).set i d := by rw [List.take_set]
theorem take_set_succ {l : List Int} {i : Nat} (h : i < l.length) (d : Int) : (l.set i d).take (i + 1) = l.take i ++ [d] := by
 rw [List.take_succ_eq_append_getElem (by simpa using h)]
 simp [List.take_set_of_le]
theorem digs_lt_of_length {x y : Int} (hx : 0 ≤ x) (h : (digs x).length < (digs y).length) : x < y := by
 by_cases h' : x < y
 ·exact h'
 ·have := digs_length_mono hx (show y ≤ x by omega)
  omega
end Go.Proofs.YtkockkfmjmheeaaGreat.E

set_option linter.unusedVariables false
namespace Go.Proofs.YtkockkfmjmheeaaGreat.E
theorem kn_first {v1 v2 v3 t u2 u3 b p q V U : Int} (hV : V = v1 * (b * p) + v2 * p + v3) (hU : U = t * (b * p) + u2 * p + u3) (hp : 0 < p) (hb : 0 < b) (h1 : 0 < v1) (h2 : 0 ≤ v2) (h3 : 0 ≤ v3) (hu2 : u2 < b) (hu3 : u3 < p) (hq : q * V ≤ U) (q0 : 0 ≤ q) :
 q ≤ t / v1 := by
 rw [Int.le_ediv_iff_mul_le h1]
 have hbp : 0 < b * p := Int.mul_pos hb hp
 have a1 : q * (v1 * (b * p)) ≤ q * V := by
  refine Int.mul_le_mul_of_nonneg_left ?_ q0
  have := Int.mul_nonneg h2 (Int.le_of_lt hp)
  omega
 have a2 : u2 * p + u3 < b * p := by
  have : (u2 + 1) * p ≤ b * p := Int.mul_le_mul_of_nonneg_right (by omega) (Int.le_of_lt hp)
  rw [Int.add_mul] at this
  omega
 have a3 : q * v1 * (b * p) < (t + 1) * (b * p) := by
  rw [Int.add_mul, Int.mul_assoc]
  omega
 have := Int.lt_of_mul_lt_mul_right a3 (Int.le_of_lt hbp)
 omega
theorem kn_less {v1 v2 v3 t u2 u3 b p q V U g r : Int} (hV : V = v1 * (b * p) + v2 * p + v3) (hU : U = t * (b * p) + u2 * p + u3) (hp : 0 < p) (h3 : 0 ≤ v3) (hu3 : u3 < p) (hq : q * V ≤ U) (hg : g * v1 + r = t) (h0 : 0 ≤ g) (hV0 : 0 ≤ V) (hc : r * b + u2 < g * v2) (hle : q ≤ g) :
 q ≤ g - 1 := by
 by_cases hlt : q ≤ g - 1
 ·exact hlt
 ·exfalso
  have e : q = g := by omega
  subst e
  have k1 : q * V = (t - r) * (b * p) + q * v2 * p + q * v3 := by rw [hV, ← hg]; grind
  have k2 : 0 ≤ q * v3 := Int.mul_nonneg h0 h3
  have k3 : (r * b + u2 + 1) * p ≤ q * v2 * p := Int.mul_le_mul_of_nonneg_right (by omega) (Int.le_of_lt hp)
  have k4 : (r * b + u2 + 1) * p = r * (b * p) + u2 * p + p := by grind
  have k5 : (t - r) * (b * p) = t * (b * p) - r * (b * p) := by grind
  omega
theorem kn_most {v1 v2 v3 t u2 u3 b p V U g r : Int} (hV : V = v1 * (b * p) + v2 * p + v3) (hU : U = t * (b * p) + u2 * p + u3) (hp : 0 < p) (h1 : 0 < v1) (h2 : 0 ≤ v2) (hu3 : 0 ≤ u3) (h3 : v3 < p) (h30 : 0 ≤ v3) (hb : 0 < b) (hg : g * v1 + r = t) (h0 : 0 ≤ g) (hgb : g ≤ b) (hc : g * v2 ≤ r * b + u2) :
 (g - 1) * V ≤ U := by
 have k0 : g * V = g * v1 * (b * p) + g * v2 * p + g * v3 := by rw [hV]; grind
 have k00 : g * v1 = t - r := by omega
 have k1 : (g - 1) * V = (t - r) * (b * p) + g * v2 * p + g * v3 - V := by rw [Int.sub_mul, Int.one_mul, k0, k00]
 have k3 : g * v2 * p ≤ (r * b + u2) * p := Int.mul_le_mul_of_nonneg_right hc (Int.le_of_lt hp)
 have k4 : (r * b + u2) * p = r * (b * p) + u2 * p := by grind
 have k5 : (t - r) * (b * p) = t * (b * p) - r * (b * p) := by grind
 have k6 : g * v3 ≤ b * v3 := Int.mul_le_mul_of_nonneg_right hgb h30
 have k7 : b * v3 ≤ b * p := Int.mul_le_mul_of_nonneg_left (by omega) (by omega)
 have k8 : 1 * (b * p) ≤ v1 * (b * p) := Int.mul_le_mul_of_nonneg_right (by omega) (Int.le_of_lt (Int.mul_pos hb hp))
 have k9 := Int.mul_nonneg h2 (Int.le_of_lt hp)
 omega
theorem kn_top {v1 v2 v3 h u1 u2 u3 b p V U : Int} (hV : V = v1 * (b * p) + v2 * p + v3) (hU : U = (h * b + u1) * (b * p) + u2 * p + u3) (hp : 0 < p) (hb : 0 < b) (h2 : v2 < b) (h3 : v3 < p) (hu1 : 0 ≤ u1) (hu2 : 0 ≤ u2) (hu3 : 0 ≤ u3) (hlt : U < V * b) : h ≤ v1 := by
 have hbp : 0 < b * p := Int.mul_pos hb hp
 have a2 : v2 * p + v3 < b * p := by
  have : (v2 + 1) * p ≤ b * p := Int.mul_le_mul_of_nonneg_right (by omega) (Int.le_of_lt hp)
  rw [Int.add_mul] at this
  omega
 have a3 : V < (v1 + 1) * (b * p) := by rw [Int.add_mul]; omega
 have a4 : V * b ≤ (v1 + 1) * (b * p) * b := Int.mul_le_mul_of_nonneg_right (Int.le_of_lt a3) (Int.le_of_lt hb)
 have a5 : 0 ≤ u1 * (b * p) := Int.mul_nonneg hu1 (Int.le_of_lt hbp)
 have a6 := Int.mul_nonneg hu2 (Int.le_of_lt hp)
 have a7 : h * (b * p * b) < (v1 + 1) * (b * p * b) := by
  have e1 : (h * b + u1) * (b * p) = h * (b * p * b) + u1 * (b * p) := by grind
  rw [e1] at hU
  rw [Int.mul_assoc] at a4
  omega
 have := Int.lt_of_mul_lt_mul_right a7 (Int.le_of_lt (Int.mul_pos hbp hb))
 omega
def win (u : List Int) (j : Nat) (x : List Int) : List Int := u.take j ++ x ++ u.drop (j + x.length)
theorem win_nil (u : List Int) (j : Nat) : win u j [] = u := by simp [win]
theorem win_length {u : List Int} {j : Nat} {x : List Int} (h : j + x.length ≤ u.length) : (win u j x).length = u.length := by
 simp [win]; omega
theorem win_get {u : List Int} {j : Nat} {x : List Int} (h : j + x.length < u.length) : (win u j x)[j + x.length]? = some (u[j + x.length]) := by
 unfold win
 rw [List.getElem?_append_right (by simp; omega)]
 simp only [List.length_append, List.length_take, Nat.min_eq_left (show j ≤ u.length by omega), Nat.sub_self, List.getElem?_drop, Nat.add_zero]
 exact List.getElem?_eq_getElem h
theorem win_set {u : List Int} {j : Nat} {x : List Int} (h : j + x.length < u.length) (d : Int) : (win u j x).set (j + x.length) d = win u j (x ++ [d]) := by
 unfold win
 rw [List.set_append_right _ _ (by simp; omega)]
 simp only [List.length_append, List.length_take, Nat.min_eq_left (show j ≤ u.length by omega), Nat.sub_self, List.length_singleton]
 rw [List.drop_eq_getElem_cons h, List.set_cons_zero]
 simp [Nat.add_assoc]
theorem win_dig {u : List Int} {j : Nat} {x : List Int} (hu : Dig u) (hx : Dig x) : Dig (win u j x) := ((hu.take j).append hx).append (hu.drop _)
theorem win_val {u : List Int} {j : Nat} {x : List Int} (h : j + x.length ≤ u.length) : val (win u j x) = val (u.take j) + 4294967296 ^ j * (val x + 4294967296 ^ x.length * val (u.drop (j + x.length))) := by
 unfold win
 rw [List.append_assoc, val_append, val_append]
 simp [Nat.min_eq_left (show j ≤ u.length by omega)]
theorem win_drop {u : List Int} {j : Nat} {x : List Int} (h : j + x.length ≤ u.length) : (win u j x).drop j = x ++ u.drop (j + x.length) := by
 unfold win
 rw [List.append_assoc, List.drop_append_of_le_length (by simp; omega), List.drop_eq_nil_of_le (by simp; omega)]
 simp
theorem win_win {u : List Int} {j : Nat} {x y : List Int} (h : j + x.length ≤ u.length) (hy : x.length ≤ y.length) (hle : j + y.length ≤ u.length) : win (win u j x) j y = win u j y := by
 have e1 : (win u j x).take j = u.take j := by
  unfold win
  rw [List.append_assoc, List.take_append_of_le_length (by simp; omega), List.take_of_length_le (by simp; omega)]
 have e2 : (win u j x).drop (j + y.length) = u.drop (j + y.length) := by
  rw [← List.drop_drop, win_drop h, List.drop_append, List.drop_eq_nil_of_le hy, List.drop_drop]
  simp; congr 1; omega
 unfold win at *
 rw [e1, e2]
theorem ms_step {x w v p c o g vi ui c' y o' n b : Int} (h : x = w - g * v + p * (c + o)) (hc : c + g * vi = b * c' + y) (hn : n = ui + o' * b - (y + o)) :
 x + p * n = (w + p * ui) - g * (v + p * vi) + p * b * (c' + o') := by subst hn; subst h; grind
theorem val_two {l : List Int} {m : Nat} (h : m + 1 < l.length) : val (l.take (m + 2)) = l[m + 1] * (4294967296 * 4294967296 ^ m) + l[m] * 4294967296 ^ m + val (l.take m) := by
 rw [show m + 2 = m + 1 + 1 from rfl, val_take_succ h, val_take_succ (show m < l.length by omega), Int.pow_succ, Int.mul_comm (l[m + 1]), Int.mul_comm (l[m]), Int.mul_comm 4294967296]
 omega
theorem val_three {l : List Int} {m : Nat} (h : m + 2 < l.length) : val (l.take (m + 3)) = (l[m + 2] * 4294967296 + l[m + 1]) * (4294967296 * 4294967296 ^ m) + l[m] * 4294967296 ^ m + val (l.take m) := by
 have e : (4294967296 : Int) ^ (m + 2) = 4294967296 ^ m * 4294967296 * 4294967296 := by rw [Int.pow_succ, Int.pow_succ]
 rw [show m + 3 = m + 2 + 1 from rfl, val_take_succ h, val_two (show m + 1 < l.length by omega), e]
 generalize (4294967296 : Int) ^ m = p
 grind
end Go.Proofs.YtkockkfmjmheeaaGreat.E

set_option linter.unusedVariables false
namespace Go.Proofs.YtkockkfmjmheeaaGreat.E
theorem guess_hi {A D M f d : Int} (hM : 0 < M) (hd : 0 < d) (hD : d * M ≤ D) (hf : A < (f + 1) * M) (hA : 0 ≤ A) : A / D ≤ f / d := by
 have hD0 : 0 < D := Int.lt_of_lt_of_le (Int.mul_pos hd hM) hD
 rw [Int.le_ediv_iff_mul_le hd]
 have h1 : A / D * D ≤ A := Int.ediv_mul_le _ (by omega)
 have q0 : 0 ≤ A / D := Int.ediv_nonneg hA (by omega)
 have h2 : A / D * (d * M) ≤ A / D * D := Int.mul_le_mul_of_nonneg_left hD q0
 have h3 : (A / D * d) * M < (f + 1) * M := by rw [Int.mul_assoc]; omega
 have := Int.lt_of_mul_lt_mul_right h3 (by omega)
 omega
theorem guess_lo {A D M f d : Int} (hM : 0 < M) (hd : 0 < d) (hD0 : 0 < D) (hD : D ≤ (d + 1) * M) (hf : f * M ≤ A) (hf0 : 0 ≤ f) : f / (d + 1) ≤ A / D := by
 rw [Int.le_ediv_iff_mul_le hD0]
 have q0 : 0 ≤ f / (d + 1) := Int.ediv_nonneg hf0 (by omega)
 have h1 : f / (d + 1) * D ≤ f / (d + 1) * ((d + 1) * M) := Int.mul_le_mul_of_nonneg_left hD q0
 have h2 : f / (d + 1) * (d + 1) ≤ f := Int.ediv_mul_le _ (by omega)
 have h3 : f / (d + 1) * (d + 1) * M ≤ f * M := Int.mul_le_mul_of_nonneg_right h2 (by omega)
 rw [← Int.mul_assoc] at h1
 omega
theorem getD_digit {l : List Int} (h : Dig l) : ∀ (j : Nat), l.getD j 0 = val l / 4294967296 ^ j % 4294967296 := by
 induction l with
 | nil => intro j; simp
 | cons d l ih =>
   intro j
   have h1 := h.head
   cases j with
   | zero => simp; omega
   | succ j =>
     have e : (d + 4294967296 * val l) / 4294967296 ^ (j + 1) = val l / 4294967296 ^ j := by
      rw [Int.pow_succ', ← Int.ediv_ediv_of_nonneg (by decide)]
      congr 1
      omega
     rw [val_cons, e, ← ih h.tail j]
     simp
theorem two_digits {l : List Int} (h : Dig l) {m : Nat} (hl : val l < 4294967296 ^ (m + 2)) : l.getD (m + 1) 0 * 4294967296 + l.getD m 0 = val l / 4294967296 ^ m := by
 rw [getD_digit h, getD_digit h]
 have e : val l / 4294967296 ^ (m + 1) = val l / 4294967296 ^ m / 4294967296 := by
  rw [Int.pow_succ, Int.ediv_ediv_of_nonneg (Int.le_of_lt (B_pow_pos m))]
 have h2 : val l / 4294967296 ^ m < 4294967296 * 4294967296 := by
  refine Int.ediv_lt_of_lt_mul (B_pow_pos m) ?_
  rw [Int.pow_succ, Int.pow_succ] at hl
  rw [Int.mul_comm, ← Int.mul_assoc]
  exact hl
 have h3 : 0 ≤ val l / 4294967296 ^ m := Int.ediv_nonneg (val_nonneg h) (Int.le_of_lt (B_pow_pos m))
 rw [e]
 omega
end Go.Proofs.YtkockkfmjmheeaaGreat.E

set_option linter.unusedVariables false
namespace Go.Proofs.YtkockkfmjmheeaaGreat.E
theorem coprime_two {n : Nat} (h : n % 2 = 1) : Nat.Coprime 2 n := by
 rw [Nat.coprime_iff_gcd_eq_one, Nat.gcd_rec, h]; rfl
theorem gcd_half_left {a b : Nat} (ha : a % 2 = 0) (hb : b % 2 = 1) : Nat.gcd (a / 2) b = Nat.gcd a b := by
 have e : a = 2 * (a / 2) := by omega
 conv => rhs; rw [e]
 exact ((coprime_two hb).gcd_mul_left_cancel _).symm
theorem gcd_half_right {a b : Nat} (ha : a % 2 = 1) (hb : b % 2 = 0) : Nat.gcd a (b / 2) = Nat.gcd a b := by
 rw [Nat.gcd_comm, gcd_half_left hb ha, Nat.gcd_comm]
theorem gcd_less {a b : Nat} (h : a ≤ b) : Nat.gcd a (b - a) = Nat.gcd a b := Nat.gcd_sub_self_right h
theorem gcd_rest (x y : Nat) : Nat.gcd y (x % y) = Nat.gcd x y := by
 rw [Nat.gcd_comm x y, Nat.gcd_rec y x, Nat.gcd_comm]
theorem gcd_times (a b t : Nat) : Nat.gcd (a * t) (b * t) = Nat.gcd a b * t := Nat.gcd_mul_right ..
end Go.Proofs.YtkockkfmjmheeaaGreat.E

set_option linter.unusedVariables false
set_option linter.unusedSimpArgs false
namespace Go.Proofs.YtkockkfmjmheeaaGreat.E
theorem digs_mul_val {a b : List Int} (ha : Dig a) (hb : Dig b) : (digs (val a * val b)).length ≤ a.length + b.length := by
 refine digs_length_le ?_
 rw [Int.pow_add]
 have h1 := val_lt ha
 have h2 := val_lt hb
 have n1 := val_nonneg ha
 have n2 := val_nonneg hb
 have p2 := B_pow_pos b.length
 have e1 : val a * val b ≤ val a * 4294967296 ^ b.length := Int.mul_le_mul_of_nonneg_left (by omega) n1
 have e2 : val a * 4294967296 ^ b.length < 4294967296 ^ a.length * 4294967296 ^ b.length := Int.mul_lt_mul_of_pos_right h1 p2
 omega
theorem digs_add_le {a b : Int} {m : Nat} (h1 : 0 ≤ a) (h2 : 0 ≤ b) (ha : (digs a).length ≤ m) (hb : (digs b).length ≤ m) : (digs (a + b)).length ≤ m + 1 := by
 have pow : ∀ {x : Int}, 0 ≤ x → (digs x).length ≤ m → x < 4294967296 ^ m := by
  intro x hx hl
  obtain ⟨k, hk⟩ := Nat.exists_eq_add_of_le hl
  have := digs_pow hx
  have p1 := B_pow_pos (digs x).length
  have p2 := B_pow_pos k
  rw [hk, Int.pow_add]
  have : (4294967296 : Int) ^ (digs x).length * 1 ≤ 4294967296 ^ (digs x).length * 4294967296 ^ k := Int.mul_le_mul_of_nonneg_left (by omega) (by omega)
  omega
 refine digs_length_le ?_
 rw [Int.pow_succ]
 have := pow h1 ha
 have := pow h2 hb
 omega
structure Raw where
 neg : Bool
 num : List Int
 den : List Int
def sgn (neg : Bool) (n : Int) : Int := if neg then -n else n
def Raw.q (x : Raw) : Rat := mkRat (sgn x.neg (val x.num)) (val x.den).toNat
structure Raw.Ok (x : Raw) (k : Nat) : Prop where
 dn : Dig x.num
 dd : Dig x.den
 ln : x.num.length ≤ k
 ld : x.den.length ≤ k
def rawOf (r : Rat) : Raw := ⟨decide (r < 0), digs r.num.natAbs, digs r.den⟩
def Fits (r : Rat) (k : Nat) : Prop := (digs r.num.natAbs).length ≤ k ∧ (digs r.den).length ≤ k
theorem Fits.mono {r : Rat} {k l : Nat} (h : Fits r k) (hl : k ≤ l) : Fits r l := ⟨Nat.le_trans h.1 hl, Nat.le_trans h.2 hl⟩
theorem rawOf_ok {r : Rat} {k : Nat} (h : Fits r k) : (rawOf r).Ok k := ⟨digs_dig _, digs_dig _, h.1, h.2⟩
theorem rat_neg_iff (r : Rat) : r < 0 ↔ r.num < 0 := by
 rw [← Rat.not_le, ← Rat.num_nonneg]; omega
theorem rawOf_q (r : Rat) : (rawOf r).q = r := by
 unfold rawOf Raw.q
 simp only [val_digs (show (0 : Int) ≤ (r.num.natAbs : Int) by omega), val_digs (show (0 : Int) ≤ (r.den : Int) by omega)]
 have e : sgn (decide (r < 0)) (r.num.natAbs : Int) = r.num := by
  unfold sgn
  by_cases h : r < 0
  ·have := (rat_neg_iff r).1 h
   simp [h]; omega
  ·have : ¬ r.num < 0 := fun h' => h ((rat_neg_iff r).2 h')
   simp [h]; omega
 rw [e, Int.toNat_natCast, mkRat_self']
where
 mkRat_self' : mkRat r.num r.den = r := Rat.mkRat_self r
theorem sgn_natAbs (neg : Bool) (n : Nat) : (sgn neg (n : Int)).natAbs = n := by
 cases neg <;> simp [sgn]
theorem sgn_div (neg : Bool) (n g : Nat) (h : g ∣ n) : sgn neg (n : Int) / (g : Int) = sgn neg ((n / g : Nat) : Int) := by
 cases neg
 ·simp [sgn]
 ·simp only [sgn, if_true]
  rw [Int.neg_ediv_of_dvd (by exact_mod_cast h)]
  simp
theorem rawOf_mkRat (neg : Bool) (n d : Nat) (hd : d ≠ 0) : rawOf (mkRat (sgn neg n) d) = ⟨neg && decide (0 < n / Nat.gcd n d), digs ((n / Nat.gcd n d : Nat) : Int), digs ((d / Nat.gcd n d : Nat) : Int)⟩ := by
 have hnum : (mkRat (sgn neg n) d).num = sgn neg ((n / Nat.gcd n d : Nat) : Int) := by
  rw [Rat.num_mkRat, if_neg hd, sgn_natAbs, Nat.gcd_comm, sgn_div _ _ _ (Nat.gcd_dvd_left n d)]
 have hden : (mkRat (sgn neg n) d).den = d / Nat.gcd n d := by
  rw [Rat.den_mkRat, if_neg hd, sgn_natAbs, Nat.gcd_comm]
 unfold rawOf
 rw [hnum, hden, sgn_natAbs]
 congr 1
 have e : (mkRat (sgn neg n) d < 0) ↔ sgn neg ((n / Nat.gcd n d : Nat) : Int) < 0 := by rw [← hnum]; exact rat_neg_iff _
 generalize n / Nat.gcd n d = w at *
 cases neg
 ·have : ¬ (mkRat (sgn false n) d < 0) := by rw [e]; simp [sgn]
  simp [this]
 ·by_cases hw : 0 < w
  ·have : mkRat (sgn true n) d < 0 := by rw [e]; simp [sgn]; omega
   simp [this, hw]
  ·have : ¬ mkRat (sgn true n) d < 0 := by rw [e]; simp [sgn]; omega
   simp [this, hw]
theorem natCast_toNat {x : Int} (h : 0 ≤ x) : ((x.toNat : Nat) : Int) = x := by omega
theorem fits_mkRat {neg : Bool} {n d k : Nat} (hn : (digs (n : Int)).length ≤ k) (hd : (digs (d : Int)).length ≤ k) (h1 : 1 ≤ k) : Fits (mkRat (sgn neg n) d) k := by
 by_cases h0 : d = 0
 ·subst h0
  rw [Rat.mkRat_zero]
  refine ⟨by simp, ?_⟩
  have : (digs ((0 : Rat).den : Int)) = [1] := by rw [show ((0 : Rat).den : Int) = 1 from rfl, digs_pos (by decide)]; simp
  rw [this]; simpa using h1
 ·have h := rawOf_mkRat neg n d h0
  have e1 : (rawOf (mkRat (sgn neg n) d)).num = digs ((n / Nat.gcd n d : Nat) : Int) := by rw [h]
  have e2 : (rawOf (mkRat (sgn neg n) d)).den = digs ((d / Nat.gcd n d : Nat) : Int) := by rw [h]
  unfold Fits
  have a1 : digs ((mkRat (sgn neg n) d).num.natAbs : Int) = digs ((n / Nat.gcd n d : Nat) : Int) := e1
  have a2 : digs ((mkRat (sgn neg n) d).den : Int) = digs ((d / Nat.gcd n d : Nat) : Int) := e2
  rw [a1, a2]
  have l1 := digs_length_mono (m := ((n / Nat.gcd n d : Nat) : Int)) (n := (n : Int)) (by omega) (Int.ofNat_le.2 (Nat.div_le_self ..))
  have l2 := digs_length_mono (m := ((d / Nat.gcd n d : Nat) : Int)) (n := (d : Int)) (by omega) (Int.ofNat_le.2 (Nat.div_le_self ..))
  omega
theorem Raw.q_eq (x : Raw) {k : Nat} (h : x.Ok k) : x.q = mkRat (sgn x.neg ((val x.num).toNat : Int)) (val x.den).toNat := by
 unfold Raw.q; rw [natCast_toNat (val_nonneg h.dn)]
theorem Raw.fits {x : Raw} {k : Nat} (h : x.Ok k) (h1 : 1 ≤ k) : Fits x.q k := by
 rw [x.q_eq h]
 have n1 := val_nonneg h.dn
 have n2 := val_nonneg h.dd
 have l1 := digs_le_of h.dn
 have l2 := digs_le_of h.dd
 have := h.ln
 have := h.ld
 exact fits_mkRat (by rw [natCast_toNat n1]; omega) (by rw [natCast_toNat n2]; omega) h1
def cmpR (a b : Rat) : Int := if a < b then -1 else if b < a then 1 else 0
def sgnR (a : Rat) : Int := cmpR a 0
theorem mkRat_lt_zero {n : Int} {d : Nat} (hd : d ≠ 0) : mkRat n d < 0 ↔ n < 0 := by
 rw [rat_neg_iff, Rat.num_mkRat, if_neg hd]
 have hg : 0 < Nat.gcd d n.natAbs := Nat.gcd_pos_of_pos_left _ (by omega)
 constructor
 ·intro h
  by_cases h0 : n < 0
  ·exact h0
  ·have := Int.ediv_nonneg (show 0 ≤ n by omega) (show (0 : Int) ≤ (Nat.gcd d n.natAbs : Nat) by omega)
   omega
 ·intro h
  exact Int.ediv_neg_of_neg_of_pos h (by omega)
theorem mkRat_pos {n : Int} {d : Nat} (hd : d ≠ 0) : 0 < mkRat n d ↔ 0 < n := by
 have h1 := mkRat_lt_zero (n := -n) hd
 rw [← Rat.neg_mkRat] at h1
 have : -mkRat n d < 0 ↔ 0 < mkRat n d := by constructor <;> intro h <;> grind
 rw [← this, h1]; omega
theorem sgn_mul (s t : Bool) (a b : Int) : sgn s a * sgn t b = sgn (s != t) (a * b) := by
 cases s <;> cases t <;> simp [sgn, Int.neg_mul, Int.mul_neg]
theorem mkRat_lt {a b : Int} {c d : Nat} (hc : c ≠ 0) (hd : d ≠ 0) : mkRat a c < mkRat b d ↔ a * d < b * c := by
 rw [Rat.lt_iff_sub_pos, Rat.sub_eq_add_neg, Rat.neg_mkRat, Rat.mkRat_add_mkRat _ _ hd hc, mkRat_pos (Nat.mul_ne_zero hd hc), Int.neg_mul]
 omega
theorem rawOf_zero : rawOf 0 = ⟨false, [], digs 1⟩ := by
 unfold rawOf
 rw [show ((0 : Rat).den : Int) = 1 from rfl, show (((0 : Rat).num.natAbs : Nat) : Int) = 0 from rfl]
 simp
theorem rawOf_one : rawOf 1 = ⟨false, digs 1, digs 1⟩ := by
 unfold rawOf
 rw [show ((1 : Rat).den : Int) = 1 from rfl, show (((1 : Rat).num.natAbs : Nat) : Int) = 1 from rfl]
 have : ¬ (1 : Rat) < 0 := by decide
 simp [this]
theorem sgnR_zero : sgnR 0 = 0 := by decide
theorem sgnR_of_pos {a : Rat} (h : 0 < a) : sgnR a = 1 := by
 unfold sgnR cmpR; rw [if_neg (by grind), if_pos h]
theorem sgnR_of_neg {a : Rat} (h : a < 0) : sgnR a = -1 := by
 unfold sgnR cmpR; rw [if_pos h]
theorem Raw.q_zero_den {x : Raw} (h : val x.den = 0) : x.q = 0 := by unfold Raw.q; rw [h]; simp
theorem Raw.q_zero_num {x : Raw} (h : val x.num = 0) : x.q = 0 := by unfold Raw.q; rw [h]; cases x.neg <;> simp [sgn]
theorem Raw.q_neg {x : Raw} {k : Nat} (ok : x.Ok k) (hn : val x.num ≠ 0) (hd : val x.den ≠ 0) (h : x.neg = true) : x.q < 0 := by
 unfold Raw.q
 have n1 := val_nonneg ok.dn
 have n2 := val_nonneg ok.dd
 rw [mkRat_lt_zero (by omega), h]; simp [sgn]; omega
theorem Raw.q_pos {x : Raw} {k : Nat} (ok : x.Ok k) (hn : val x.num ≠ 0) (hd : val x.den ≠ 0) (h : x.neg = false) : 0 < x.q := by
 unfold Raw.q
 have n1 := val_nonneg ok.dn
 have n2 := val_nonneg ok.dd
 rw [mkRat_pos (by omega), h]; simp [sgn]; omega
theorem cmpR_cross {x y : Raw} {k l : Nat} (hx : x.Ok k) (hy : y.Ok l) : cmpR x.q y.q = if sgnR x.q < sgnR y.q then -1 else if sgnR x.q > sgnR y.q then 1 else sgnR x.q * (if val x.num * val y.den < val y.num * val x.den then -1 else if val y.num * val x.den < val x.num * val y.den then 1 else 0) := by
 have n1 := val_nonneg hx.dn
 have n2 := val_nonneg hx.dd
 have n3 := val_nonneg hy.dn
 have n4 := val_nonneg hy.dd
 have tri : ∀ {z : Raw} {k : Nat}, z.Ok k → (z.q = 0 ∧ sgnR z.q = 0) ∨ (z.q < 0 ∧ sgnR z.q = -1 ∧ z.neg = true ∧ val z.num ≠ 0 ∧ val z.den ≠ 0) ∨ (0 < z.q ∧ sgnR z.q = 1 ∧ z.neg = false ∧ val z.num ≠ 0 ∧ val z.den ≠ 0) := by
  intro z k hz
  by_cases hd : val z.den = 0
  ·left; rw [Raw.q_zero_den hd]; exact ⟨rfl, sgnR_zero⟩
  by_cases hn : val z.num = 0
  ·left; rw [Raw.q_zero_num hn]; exact ⟨rfl, sgnR_zero⟩
  cases hs : z.neg
  ·have := Raw.q_pos hz hn hd hs
   exact .inr (.inr ⟨this, sgnR_of_pos this, rfl, hn, hd⟩)
  ·have := Raw.q_neg hz hn hd hs
   exact .inr (.inl ⟨this, sgnR_of_neg this, rfl, hn, hd⟩)
 rcases tri hx with ⟨a1, a2⟩ | ⟨a1, a2, a3, a4, a5⟩ | ⟨a1, a2, a3, a4, a5⟩ <;> rcases tri hy with ⟨b1, b2⟩ | ⟨b1, b2, b3, b4, b5⟩ | ⟨b1, b2, b3, b4, b5⟩
 ·rw [a2, b2, a1, b1]; simp; decide
 ·rw [a2, b2, a1]; unfold cmpR; rw [if_neg (by grind), if_pos b1]; simp
 ·rw [a2, b2, a1]; unfold cmpR; rw [if_pos b1]; simp
 ·rw [a2, b2, b1]; unfold cmpR; rw [if_pos a1]; simp
 ·have key : x.q < y.q ↔ val y.num * val x.den < val x.num * val y.den := by
   unfold Raw.q
   rw [mkRat_lt (by omega) (by omega), a3, b3, natCast_toNat n2, natCast_toNat n4]
   simp only [sgn, if_true, Int.neg_mul]; omega
  have key2 : y.q < x.q ↔ val x.num * val y.den < val y.num * val x.den := by
   unfold Raw.q
   rw [mkRat_lt (by omega) (by omega), a3, b3, natCast_toNat n2, natCast_toNat n4]
   simp only [sgn, if_true, Int.neg_mul]; omega
  rw [a2, b2]
  unfold cmpR
  simp only [key, key2]
  generalize val y.num * val x.den = s
  generalize val x.num * val y.den = t
  by_cases h : s < t <;> by_cases h' : t < s <;> first | omega | simp [h, h']
 ·rw [a2, b2]; unfold cmpR; rw [if_pos (by grind)]; simp
 ·rw [a2, b2, b1]; unfold cmpR; rw [if_neg (by grind), if_pos a1]; simp
 ·rw [a2, b2]; unfold cmpR; rw [if_neg (by grind), if_pos (by grind)]; simp
 ·have key : x.q < y.q ↔ val x.num * val y.den < val y.num * val x.den := by
   unfold Raw.q
   rw [mkRat_lt (by omega) (by omega), a3, b3, natCast_toNat n2, natCast_toNat n4]
   simp only [sgn, Bool.false_eq_true, if_false]
  have key2 : y.q < x.q ↔ val y.num * val x.den < val x.num * val y.den := by
   unfold Raw.q
   rw [mkRat_lt (by omega) (by omega), a3, b3, natCast_toNat n2, natCast_toNat n4]
   simp only [sgn, Bool.false_eq_true, if_false]
  rw [a2, b2]
  unfold cmpR
  simp only [key, key2]
  generalize val y.num * val x.den = s
  generalize val x.num * val y.den = t
  simp
theorem fits_neg {r : Rat} {k : Nat} (h : Fits r k) : Fits (-r) k := by
 unfold Fits at *
 rw [show (-r).num = -r.num from rfl, show (-r).den = r.den from rfl, Int.natAbs_neg]; exact h
theorem mkRat_sum {s t : Bool} {a b c d : Int} (hc : 0 < c) (hd : 0 < d) : mkRat (sgn s a) c.toNat + mkRat (sgn t b) d.toNat = mkRat (sgn s a * d + sgn t b * c) (c * d).toNat := by
 rw [Rat.mkRat_add_mkRat _ _ (by omega) (by omega), natCast_toNat (Int.le_of_lt hc), natCast_toNat (Int.le_of_lt hd)]
 congr 1
 rw [Int.toNat_mul (by omega) (by omega)]
theorem Raw.add_same {x y : Raw} (hx : 0 < val x.den) (hy : 0 < val y.den) (h : x.neg = y.neg) : x.q + y.q = mkRat (sgn x.neg (val x.num * val y.den + val y.num * val x.den)) (val x.den * val y.den).toNat := by
 unfold Raw.q
 rw [mkRat_sum hx hy, ← h]
 congr 1
 cases x.neg <;> simp [sgn, Int.neg_mul, Int.neg_add]
theorem Raw.add_ge {x y : Raw} (hx : 0 < val x.den) (hy : 0 < val y.den) (h : x.neg ≠ y.neg) : x.q + y.q = mkRat (sgn x.neg (val x.num * val y.den - val y.num * val x.den)) (val x.den * val y.den).toNat := by
 unfold Raw.q
 rw [mkRat_sum hx hy]
 congr 1
 have : y.neg = !x.neg := by cases hx : x.neg <;> cases hy : y.neg <;> simp [hx, hy] at h ⊢
 rw [this]
 cases x.neg <;> simp [sgn, Int.neg_mul] <;> omega
theorem Raw.add_lt {x y : Raw} (hx : 0 < val x.den) (hy : 0 < val y.den) (h : x.neg ≠ y.neg) : x.q + y.q = mkRat (sgn y.neg (val y.num * val x.den - val x.num * val y.den)) (val x.den * val y.den).toNat := by
 unfold Raw.q
 rw [mkRat_sum hx hy]
 congr 1
 have : y.neg = !x.neg := by cases hx : x.neg <;> cases hy : y.neg <;> simp [hx, hy] at h ⊢
 rw [this]
 cases x.neg <;> simp [sgn, Int.neg_mul] <;> omega
theorem Raw.mul_q {x y : Raw} {k l : Nat} (hx : x.Ok k) (hy : y.Ok l) : x.q * y.q = mkRat (sgn (x.neg != y.neg) (val x.num * val y.num)) (val x.den * val y.den).toNat := by
 unfold Raw.q
 rw [Rat.mkRat_mul_mkRat, sgn_mul, Int.toNat_mul (val_nonneg hx.dd) (val_nonneg hy.dd)]
theorem digs_mul_le {a b : Int} {k l : Nat} (h1 : 0 ≤ a) (h2 : 0 ≤ b) (ha : (digs a).length ≤ k) (hb : (digs b).length ≤ l) : (digs (a * b)).length ≤ k + l := by
 have := digs_mul_val (digs_dig a) (digs_dig b)
 rw [val_digs h1, val_digs h2] at this
 omega
theorem fits_mkRat' {n : Int} {d k : Nat} (hn : (digs (n.natAbs : Int)).length ≤ k) (hd : (digs (d : Int)).length ≤ k) (h1 : 1 ≤ k) : Fits (mkRat n d) k := by
 have e : n = sgn (decide (n < 0)) (n.natAbs : Int) := by unfold sgn; by_cases h : n < 0 <;> simp [h] <;> omega
 rw [e]; exact fits_mkRat hn hd h1
theorem fits_add {a b : Rat} {k l : Nat} (ha : Fits a k) (hb : Fits b l) : Fits (a + b) (k + l + 1) := by
 rw [Rat.add_def']
 refine fits_mkRat' ?_ ?_ (by omega)
 ·have h1 := digs_mul_le (a := (a.num.natAbs : Int)) (b := (b.den : Int)) (by omega) (by omega) ha.1 hb.2
  have h2 := digs_mul_le (a := (b.num.natAbs : Int)) (b := (a.den : Int)) (by omega) (by omega) hb.1 ha.2
  have h3 := digs_add_le (m := k + l) (Int.mul_nonneg (show (0 : Int) ≤ (a.num.natAbs : Int) by omega) (show (0 : Int) ≤ (b.den : Int) by omega)) (Int.mul_nonneg (show (0 : Int) ≤ (b.num.natAbs : Int) by omega) (show (0 : Int) ≤ (a.den : Int) by omega)) h1 (by omega)
  refine Nat.le_trans (digs_length_mono ?_ ?_) h3
  ·have := Int.mul_nonneg (show (0 : Int) ≤ (a.num.natAbs : Int) by omega) (show (0 : Int) ≤ (b.den : Int) by omega)
   have := Int.mul_nonneg (show (0 : Int) ≤ (b.num.natAbs : Int) by omega) (show (0 : Int) ≤ (a.den : Int) by omega)
   omega
  ·have e1 : (a.num * b.den).natAbs = a.num.natAbs * b.den := by rw [Int.natAbs_mul]; simp
   have e2 : (b.num * a.den).natAbs = b.num.natAbs * a.den := by rw [Int.natAbs_mul]; simp
   have e3 : ((a.num.natAbs * b.den : Nat) : Int) = (a.num.natAbs : Int) * b.den := Int.natCast_mul ..
   have e4 : ((b.num.natAbs * a.den : Nat) : Int) = (b.num.natAbs : Int) * a.den := Int.natCast_mul ..
   rw [← e3, ← e4, ← e1, ← e2]
   omega
 ·rw [Int.natCast_mul]
  have := digs_mul_le (a := (a.den : Int)) (b := (b.den : Int)) (by omega) (by omega) ha.2 hb.2
  omega
theorem fits_sub {a b : Rat} {k l : Nat} (ha : Fits a k) (hb : Fits b l) : Fits (a - b) (k + l + 1) := by
 rw [Rat.sub_eq_add_neg]
 have hb' : Fits (-b) l := by
  unfold Fits at *
  rw [show (-b).num = -b.num from rfl, show (-b).den = b.den from rfl, Int.natAbs_neg]; exact hb
 exact fits_add ha hb'
theorem fits_mul {a b : Rat} {k l : Nat} (ha : Fits a k) (hb : Fits b l) (h1 : 1 ≤ k) : Fits (a * b) (k + l) := by
 rw [Rat.mul_def']
 refine fits_mkRat' ?_ ?_ (by omega)
 ·rw [Int.natAbs_mul, Int.natCast_mul]
  exact digs_mul_le (by omega) (by omega) ha.1 hb.1
 ·rw [Int.natCast_mul]
  exact digs_mul_le (by omega) (by omega) ha.2 hb.2
theorem fits_zero : Fits 0 1 := by
 have h := rawOf_zero
 have e1 : digs ((0 : Rat).num.natAbs : Int) = [] := congrArg Raw.num h
 have e2 : digs ((0 : Rat).den : Int) = digs 1 := congrArg Raw.den h
 have e3 : digs 1 = [1] := by rw [digs_pos (by decide)]; simp
 unfold Fits; rw [e1, e2, e3]; simp
theorem fits_one : Fits 1 1 := by
 have h := rawOf_one
 have e1 : digs ((1 : Rat).num.natAbs : Int) = digs 1 := congrArg Raw.num h
 have e2 : digs ((1 : Rat).den : Int) = digs 1 := congrArg Raw.den h
 have e3 : digs 1 = [1] := by rw [digs_pos (by decide)]; simp
 unfold Fits; rw [e1, e2, e3]; simp
def Raw.right (x : Raw) : Bool := decide (x.num = digs (val x.num)) && decide (x.den = digs (val x.den)) && !(decide (x.den = [])) && !(decide (x.num = []) && x.neg) && decide (Nat.gcd (val x.num).toNat (val x.den).toNat = 1)
end Go.Proofs.YtkockkfmjmheeaaGreat.E
