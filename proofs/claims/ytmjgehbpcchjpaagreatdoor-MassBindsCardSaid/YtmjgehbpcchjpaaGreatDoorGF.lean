set_option linter.unusedVariables false
namespace Go.Proofs.YtmjgehbpcchjpaaGreatDoor.E
def val : List Int → Int
 | [] => 0
 | d :: l => d + 4294967296 * val l
def Dig (l : List Int) : Prop := ∀ d ∈ l, 0 ≤ d ∧ d < 4294967296
def aw (n : Int) : List Int := if h : n ≤ 0 then [] else n % 4294967296 :: aw (n / 4294967296)
termination_by n.toNat
decreasing_by omega
@[simp] theorem l9 : val [] = 0 := rfl
@[simp] theorem bO (d : Int) (l : List Int) : val (d :: l) = d + 4294967296 * val l := rfl
theorem gz {n : Int} (h : n ≤ 0) : aw n = [] := by unfold aw; simp [h]
@[simp] theorem digs_zero : aw 0 = [] := gz (by decide)
theorem b8 {n : Int} (h : 0 < n) : aw n = n % 4294967296 :: aw (n / 4294967296) := by rw [aw]; rw [dif_neg (by omega)]
theorem Dig.nil : Dig [] := by simp [Dig]
theorem Dig.cons {d : Int} {l : List Int} (h0 : 0 ≤ d) (h : d < 4294967296) (hl : Dig l) : Dig (d :: l) := by
 intro x hx
 rcases List.mem_cons.1 hx with rfl | hx
 ·exact ⟨h0, h⟩
 ·exact hl x hx
theorem Dig.tail {d : Int} {l : List Int} (h : Dig (d :: l)) : Dig l := fun x hx => h x (by simp [hx])
theorem Dig.head {d : Int} {l : List Int} (h : Dig (d :: l)) : 0 ≤ d ∧ d < 4294967296 := h d (by simp)
theorem Dig.append {a b : List Int} (ha : Dig a) (hb : Dig b) : Dig (a ++ b) := fun x hx => by
 rcases List.mem_append.1 hx with h | h
 ·exact ha x h
 ·exact hb x h
theorem Dig.snoc {a : List Int} {d : Int} (ha : Dig a) (h0 : 0 ≤ d) (h : d < 4294967296) : Dig (a ++ [d]) := ha.append (Dig.cons h0 h Dig.nil)
theorem Dig.take {l : List Int} (h : Dig l) (n : Nat) : Dig (l.take n) := fun x hx => h x (List.mem_of_mem_take hx)
theorem Dig.drop {l : List Int} (h : Dig l) (n : Nat) : Dig (l.drop n) := fun x hx => h x (List.mem_of_mem_drop hx)
theorem Dig.get {l : List Int} (h : Dig l) {i : Nat} (hi : i < l.length) : 0 ≤ l[i] ∧ l[i] < 4294967296 := h _ (List.getElem_mem hi)
theorem Dig.set {l : List Int} (h : Dig l) (i : Nat) {d : Int} (h0 : 0 ≤ d) (hd : d < 4294967296) : Dig (l.set i d) := fun x hx => by
 rcases List.mem_or_eq_of_mem_set hx with hx | rfl
 ·exact h x hx
 ·exact ⟨h0, hd⟩
theorem Dig.replicate (n : Nat) : Dig (List.replicate n 0) := fun x hx => by
 rw [List.mem_replicate] at hx; rw [hx.2]; decide
theorem mG {p : Int → Prop} (h0 : ∀ n, n ≤ 0 → p n) (h1 : ∀ n, 0 < n → p (n / 4294967296) → p n) (n : Int) : p n := by
 by_cases h : n ≤ 0
 ·exact h0 n h
 ·have : ∀ k : Nat, ∀ n : Int, n ≤ k → p n := by
   intro k
   induction k with
   | zero => intro n hn; exact h0 n hn
   | succ k ih =>
     intro n hn
     by_cases h : n ≤ 0
     ·exact h0 n h
     ·exact h1 n (by omega) (ih _ (by omega))
  exact this n.toNat n (by omega)
theorem au (n : Int) : Dig (aw n) := by
 induction n using mG with
 | h0 n h => rw [gz h]; exact Dig.nil
 | h1 n h ih => rw [b8 h]; exact Dig.cons (by omega) (by omega) ih
@[simp] theorem ti (n : Int) : val (aw n) = max n 0 := by
  induction n using mG with
  | h0 n h => rw [gz h]; simp; omega
  | h1 n h ih => rw [b8 h, bO, ih]; omega
theorem aC {n : Int} (h : 0 ≤ n) : val (aw n) = n := by rw [ti]; omega
theorem pF {m n : Int} (hm : 0 ≤ m) (hn : 0 ≤ n) (h : aw m = aw n) : m = n := by
 rw [← aC hm, h, aC hn]
theorem eg (a b : List Int) : val (a ++ b) = val a + 4294967296 ^ a.length * val b := by
 induction a with
 | nil => simp
 | cons d a ih =>
   simp only [List.cons_append, bO, ih, List.length_cons]
   rw [Int.pow_succ, Int.mul_add, Int.mul_comm (4294967296 ^ a.length) 4294967296, Int.mul_assoc]
   omega
theorem cc (a : List Int) (d : Int) : val (a ++ [d]) = val a + 4294967296 ^ a.length * d := by rw [eg]; simp
theorem bz (n : Nat) : 0 < (4294967296 : Int) ^ n := Int.pow_pos (by decide)
theorem aq {l : List Int} (h : Dig l) : 0 ≤ val l := by
 induction l with
 | nil => simp
 | cons d l ih =>
   have h1 := ih h.tail
   have h2 := h.head
   rw [bO]; omega
theorem dZ {l : List Int} (h : Dig l) : val l < 4294967296 ^ l.length := by
 induction l with
 | nil => simp
 | cons d l ih =>
   have h1 := ih h.tail
   have h2 := h.head
   simp only [bO, List.length_cons]
   rw [Int.pow_succ]
   omega
@[simp] theorem nH (n : Nat) : val (List.replicate n 0) = 0 := by
  induction n with
  | zero => rfl
  | succ n ih => simp [List.replicate_succ, ih]
theorem aX {l : List Int} {i : Nat} (h : i < l.length) : val (l.take (i + 1)) = val (l.take i) + 4294967296 ^ i * l[i] := by
 rw [List.take_succ_eq_append_getElem h, cc]
 simp [Nat.min_eq_left (Nat.le_of_lt h)]
def eO (l : List Int) : Nat → Nat
 | 0 => 0
 | n + 1 => if l[n]? = some 0 then eO l n else n + 1
theorem oI (l : List Int) (n : Nat) : eO l n ≤ n := by
 induction n with
 | zero => simp [eO]
 | succ n ih => simp only [eO]; split <;> omega
theorem pH : ∀ {l : List Int}, Dig l → (∀ (h : l ≠ []), l.getLast h ≠ 0) → aw (val l) = l
 | [], _, _ => by simp
 | d :: l, hd, hz => by
   have ih : aw (val l) = l := pH hd.tail fun h => by
    have := hz (by simp)
    rwa [List.getLast_cons h] at this
   have hdB := hd.head
   have hv := aq hd.tail
   have h1 : (d + 4294967296 * val l) % 4294967296 = d := by omega
   have h2 : (d + 4294967296 * val l) / 4294967296 = val l := by omega
   have hne : 0 < d + 4294967296 * val l := by
    by_cases hd0 : d = 0
    ·by_cases hv0 : val l = 0
     ·rw [hv0] at ih
      simp at ih
      subst ih
      exact absurd hd0 (hz (by simp))
     ·omega
    ·omega
   rw [bO, b8 hne, h1, h2, ih]
theorem nQ : ∀ (l : List Int) (n : Nat), n ≤ l.length → val (l.take (eO l n)) = val (l.take n) ∧ (∀ (h : l.take (eO l n) ≠ []), (l.take (eO l n)).getLast h ≠ 0)
 | l, 0, _ => by simp [eO]
 | l, n + 1, hn => by
   have hlt : n < l.length := by omega
   obtain ⟨ih1, ih2⟩ := nQ l n (by omega)
   by_cases h : l[n] = 0
   ·have e : eO l (n + 1) = eO l n := by simp [eO, hlt, h]
    rw [e]
    refine ⟨?_, ih2⟩
    rw [ih1, aX hlt, h]
    simp
   ·have e : eO l (n + 1) = n + 1 := by simp [eO, hlt, h]
    rw [e]
    refine ⟨rfl, fun hh => ?_⟩
    have : l.take (n + 1) = l.take n ++ [l[n]] := List.take_succ_eq_append_getElem hlt
    simp only [this, List.getLast_append, List.getLast_singleton]
    simpa using h
theorem pf {l : List Int} (h : Dig l) : l.take (eO l l.length) = aw (val l) := by
 obtain ⟨h1, h2⟩ := nQ l l.length (Nat.le_refl _)
 rw [List.take_length] at h1
 rw [← h1]
 exact (pH (h.take _) h2).symm
theorem cut0_all {l : List Int} (h : 0 < l.length) : eO l l.length = l.length ↔ l[l.length - 1] ≠ 0 := by
 obtain ⟨n, hn⟩ : ∃ n, l.length = n + 1 := ⟨l.length - 1, by omega⟩
 have hlt : n < l.length := by omega
 have e : l[l.length - 1] = l[n] := by congr 1; omega
 rw [e, hn]
 have := oI l n
 by_cases h : l[n] = 0
 ·simp [eO, hlt, h]; omega
 ·simp [eO, hlt, h]
theorem iB {l : List Int} (h : Dig l) (hp : 0 < l.length) : l = aw (val l) ↔ l[l.length - 1] ≠ 0 := by
 rw [← cut0_all hp, ← pf h]
 have := oI l l.length
 constructor
 ·intro e
  have := congrArg List.length e
  rw [List.length_take] at this
  omega
 ·intro e
  rw [e, List.take_length]
theorem cu {n : Int} {k : Nat} (h : n < 4294967296 ^ k) : (aw n).length ≤ k := by
 induction k generalizing n with
 | zero => rw [gz (by simp at h; omega)]; simp
 | succ k ih =>
   by_cases h0 : n ≤ 0
   ·rw [gz h0]; simp
   ·rw [b8 (by omega), List.length_cons]
    have : n / 4294967296 < 4294967296 ^ k := by
     rw [Int.pow_succ] at h
     exact Int.ediv_lt_of_lt_mul (by decide) h
    have := ih this
    omega
theorem a9 {l : List Int} (h : Dig l) : (aw (val l)).length ≤ l.length := cu (dZ h)
theorem dF {n : Int} (h : 0 ≤ n) : n < 4294967296 ^ (aw n).length := by
 have := dZ (au n)
 rwa [aC h] at this
theorem digs_ge {n : Int} : 0 < n → 4294967296 ^ ((aw n).length - 1) ≤ n := by
 induction n using mG with
 | h0 n h => intro h'; omega
 | h1 n h ih =>
   intro _
   rw [b8 h, List.length_cons, Nat.add_sub_cancel]
   by_cases h1 : n / 4294967296 ≤ 0
   ·rw [gz h1]; simp; omega
   ·have := ih (by omega)
    have hl : (aw (n / 4294967296)).length = (aw (n / 4294967296)).length - 1 + 1 := by
     rw [b8 (by omega), List.length_cons]; omega
    rw [hl, Int.pow_succ]
    have : 4294967296 ^ ((aw (n / 4294967296)).length - 1) * 4294967296 ≤ n / 4294967296 * 4294967296 := Int.mul_le_mul_of_nonneg_right this (by decide)
    omega
theorem bj {m n : Int} (hn : 0 ≤ n) (h : m ≤ n) : (aw m).length ≤ (aw n).length := cu (Int.lt_of_le_of_lt h (dF hn))
theorem co {n : Int} : aw n = [] ↔ n ≤ 0 := by
 constructor
 ·intro h
  by_cases h0 : n ≤ 0
  ·exact h0
  ·rw [b8 (by omega)] at h; simp at h
 ·exact gz
def dE : Nat → Int → List Int
 | 0, _ => []
 | n + 1, x => x % 4294967296 :: dE n (x / 4294967296)
@[simp] theorem digsN_length (n : Nat) (x : Int) : (dE n x).length = n := by
  induction n generalizing x with
  | zero => rfl
  | succ n ih => simp [dE, ih]
theorem kC (n : Nat) (x : Int) : Dig (dE n x) := by
 induction n generalizing x with
 | zero => exact Dig.nil
 | succ n ih => exact Dig.cons (by omega) (by omega) (ih _)
theorem pE : ∀ {o : List Int}, Dig o → o = dE o.length (val o)
 | [], _ => rfl
 | d :: o, h => by
   have h1 := h.head
   have e1 : (d + 4294967296 * val o) % 4294967296 = d := by omega
   have e2 : (d + 4294967296 * val o) / 4294967296 = val o := by omega
   simp only [List.length_cons, dE, bO, e1, e2]
   rw [← pE h.tail]
theorem ot {n : Nat} {x : Int} (h0 : 0 ≤ x) (h : x < 4294967296 ^ n) : val (dE n x) = x := by
 induction n generalizing x with
 | zero => simp at h; simp [dE]; omega
 | succ n ih =>
   simp only [dE, bO]
   rw [ih (by omega) (by rw [Int.pow_succ] at h; exact Int.ediv_lt_of_lt_mul (by decide) h)]
   omega
theorem di {l : List Int} {k : Nat} (h : k ≤ l.length) : val l = val (l.take k) + 4294967296 ^ k * val (l.drop k) := by
 have := eg (l.take k) (l.drop k)
 rw [List.take_append_drop, List.length_take, Nat.min_eq_left h] at this
 exact this
theorem iM {l m : List Int} (hl : Dig l) (hm : Dig m) {k : Nat} (h1 : k < l.length) (h2 : k < m.length) (hd : l.drop (k + 1) = m.drop (k + 1)) (h : l[k] < m[k]) : val l < val m := by
 rw [di (Nat.le_of_lt h1), di (Nat.le_of_lt h2), List.drop_eq_getElem_cons h1, List.drop_eq_getElem_cons h2, hd, bO, bO]
 have a1 := dZ (hl.take k)
 rw [List.length_take, Nat.min_eq_left (Nat.le_of_lt h1)] at a1
 have a2 := aq (hm.take k)
 have p := bz k
 generalize (4294967296 : Int) ^ k = q at *
 generalize val (List.drop (k + 1) m) = t at *
 have : q * (l[k] + 1) ≤ q * m[k] := Int.mul_le_mul_of_nonneg_left (by omega) (by omega)
 rw [Int.mul_add] at this
 rw [Int.mul_add, Int.mul_add]
 omega
theorem val_set {l : List Int} {j : Nat} (h : j < l.length) (d : Int) : val (l.set j d) = val l + 4294967296 ^ j * (d - l[j]) := by
 rw [di (l := l.set j d) (k := j) (by simp; omega), di (l := l) (k := j) (by omega)]
 rw [List.take_set_of_le (Nat.le_refl _), List.drop_eq_getElem_cons (by simpa using h), List.drop_eq_getElem_cons h]
 simp only [bO, List.getElem_set_self, List.drop_set]
 rw [if_pos (by omega)]
 generalize (4294967296 : Int) ^ j = p
 generalize l[j] = x
 generalize val (List.drop (j + 1) l) = t
 generalize val (List.take j l) = s
 grind
theorem iH {x y : Int} (hx : 0 ≤ x ∧ x < 4294967296) (hy : 0 ≤ y ∧ y < 4294967296) : 0 ≤ x * y ∧ x * y ≤ 18446744065119617025 := by
 refine ⟨Int.mul_nonneg hx.1 hy.1, ?_⟩
 have := Int.mul_le_mul (show x ≤ 4294967295 by omega) (show y ≤ 4294967295 by omega) hy.1 (by omega)
 omega
theorem qv {l : List Int} {i n : Nat} (d : Int) : (l.set i d).take n = (l.take n).set i d := by rw [List.take_set]
theorem dh {l : List Int} {i : Nat} (h : i < l.length) (d : Int) : (l.set i d).take (i + 1) = l.take i ++ [d] := by
 rw [List.take_succ_eq_append_getElem (by simpa using h)]
 simp [List.take_set_of_le]
theorem cO {x y : Int} (hx : 0 ≤ x) (h : (aw x).length < (aw y).length) : x < y := by
 by_cases h' : x < y
 ·exact h'
 ·have := bj hx (show y ≤ x by omega)
  omega
end Go.Proofs.YtmjgehbpcchjpaaGreatDoor.E

set_option linter.unusedVariables false
namespace Go.Proofs.YtmjgehbpcchjpaaGreatDoor.E
theorem kn_first {v1 v2 v3 t u2 u3 b p q V U : Int} (hV : V = v1 * (b * p) + v2 * p + v3) (hU : U = t * (b * p) + u2 * p + u3) (hp : 0 < p) (hb : 0 < b) (h1 : 0 < v1) (h2 : 0 ≤ v2) (h3 : 0 ≤ v3) (hu2 : u2 < b) (hu3 : u3 < p) (hq : q * V ≤ U) (q0 : 0 ≤ q) :
 q ≤ t / v1 := by
 rw [Int.le_ediv_iff_mul_le h1]
 have hbp : 0 < b * p := Int.mul_pos hb hp
 have a1 : q * (v1 * (b * p)) ≤ q * V := by
  refine Int.mul_le_mul_of_nonneg_left ?_ q0
  have := Int.mul_nonneg h2 (Int.le_of_lt hp)
  omega
 have a2 : u2 * p + u3 < b * p := by
  have : (u2 + 1) * p ≤ b * p := Int.mul_le_mul_of_nonneg_right (by omega) (Int.le_of_lt hp)
  rw [Int.add_mul] at this
  omega
 have a3 : q * v1 * (b * p) < (t + 1) * (b * p) := by
  rw [Int.add_mul, Int.mul_assoc]
  omega
 have := Int.lt_of_mul_lt_mul_right a3 (Int.le_of_lt hbp)
 omega
theorem kn_less {v1 v2 v3 t u2 u3 b p q V U g r : Int} (hV : V = v1 * (b * p) + v2 * p + v3) (hU : U = t * (b * p) + u2 * p + u3) (hp : 0 < p) (h3 : 0 ≤ v3) (hu3 : u3 < p) (hq : q * V ≤ U) (hg : g * v1 + r = t) (h0 : 0 ≤ g) (hV0 : 0 ≤ V) (hc : r * b + u2 < g * v2) (hle : q ≤ g) :
 q ≤ g - 1 := by
 by_cases hlt : q ≤ g - 1
 ·exact hlt
 ·exfalso
  have e : q = g := by omega
  subst e
  have k1 : q * V = (t - r) * (b * p) + q * v2 * p + q * v3 := by rw [hV, ← hg]; grind
  have k2 : 0 ≤ q * v3 := Int.mul_nonneg h0 h3
  have k3 : (r * b + u2 + 1) * p ≤ q * v2 * p := Int.mul_le_mul_of_nonneg_right (by omega) (Int.le_of_lt hp)
  have k4 : (r * b + u2 + 1) * p = r * (b * p) + u2 * p + p := by grind
  have k5 : (t - r) * (b * p) = t * (b * p) - r * (b * p) := by grind
  omega
theorem kn_most {v1 v2 v3 t u2 u3 b p V U g r : Int} (hV : V = v1 * (b * p) + v2 * p + v3) (hU : U = t * (b * p) + u2 * p + u3) (hp : 0 < p) (h1 : 0 < v1) (h2 : 0 ≤ v2) (hu3 : 0 ≤ u3) (h3 : v3 < p) (h30 : 0 ≤ v3) (hb : 0 < b) (hg : g * v1 + r = t) (h0 : 0 ≤ g) (hgb : g ≤ b) (hc : g * v2 ≤ r * b + u2) :
 (g - 1) * V ≤ U := by
 have k0 : g * V = g * v1 * (b * p) + g * v2 * p + g * v3 := by rw [hV]; grind
 have k00 : g * v1 = t - r := by omega
 have k1 : (g - 1) * V = (t - r) * (b * p) + g * v2 * p + g * v3 - V := by rw [Int.sub_mul, Int.one_mul, k0, k00]
 have k3 : g * v2 * p ≤ (r * b + u2) * p := Int.mul_le_mul_of_nonneg_right hc (Int.le_of_lt hp)
 have k4 : (r * b + u2) * p = r * (b * p) + u2 * p := by grind
 have k5 : (t - r) * (b * p) = t * (b * p) - r * (b * p) := by grind
 have k6 : g * v3 ≤ b * v3 := Int.mul_le_mul_of_nonneg_right hgb h30
 have k7 : b * v3 ≤ b * p := Int.mul_le_mul_of_nonneg_left (by omega) (by omega)
 have k8 : 1 * (b * p) ≤ v1 * (b * p) := Int.mul_le_mul_of_nonneg_right (by omega) (Int.le_of_lt (Int.mul_pos hb hp))
 have k9 := Int.mul_nonneg h2 (Int.le_of_lt hp)
 omega
theorem kn_top {v1 v2 v3 h u1 u2 u3 b p V U : Int} (hV : V = v1 * (b * p) + v2 * p + v3) (hU : U = (h * b + u1) * (b * p) + u2 * p + u3) (hp : 0 < p) (hb : 0 < b) (h2 : v2 < b) (h3 : v3 < p) (hu1 : 0 ≤ u1) (hu2 : 0 ≤ u2) (hu3 : 0 ≤ u3) (hlt : U < V * b) : h ≤ v1 := by
 have hbp : 0 < b * p := Int.mul_pos hb hp
 have a2 : v2 * p + v3 < b * p := by
  have : (v2 + 1) * p ≤ b * p := Int.mul_le_mul_of_nonneg_right (by omega) (Int.le_of_lt hp)
  rw [Int.add_mul] at this
  omega
 have a3 : V < (v1 + 1) * (b * p) := by rw [Int.add_mul]; omega
 have a4 : V * b ≤ (v1 + 1) * (b * p) * b := Int.mul_le_mul_of_nonneg_right (Int.le_of_lt a3) (Int.le_of_lt hb)
 have a5 : 0 ≤ u1 * (b * p) := Int.mul_nonneg hu1 (Int.le_of_lt hbp)
 have a6 := Int.mul_nonneg hu2 (Int.le_of_lt hp)
 have a7 : h * (b * p * b) < (v1 + 1) * (b * p * b) := by
  have e1 : (h * b + u1) * (b * p) = h * (b * p * b) + u1 * (b * p) := by grind
  rw [e1] at hU
  rw [Int.mul_assoc] at a4
  omega
 have := Int.lt_of_mul_lt_mul_right a7 (Int.le_of_lt (Int.mul_pos hbp hb))
 omega
def win (u : List Int) (j : Nat) (x : List Int) : List Int := u.take j ++ x ++ u.drop (j + x.length)
theorem rY (u : List Int) (j : Nat) : win u j [] = u := by simp [win]
theorem ei {u : List Int} {j : Nat} {x : List Int} (h : j + x.length ≤ u.length) : (win u j x).length = u.length := by
 simp [win]; omega
theorem me {u : List Int} {j : Nat} {x : List Int} (h : j + x.length < u.length) : (win u j x)[j + x.length]? = some (u[j + x.length]) := by
 unfold win
 rw [List.getElem?_append_right (by simp; omega)]
 simp only [List.length_append, List.length_take, Nat.min_eq_left (show j ≤ u.length by omega), Nat.sub_self, List.getElem?_drop, Nat.add_zero]
 exact List.getElem?_eq_getElem h
theorem mg {u : List Int} {j : Nat} {x : List Int} (h : j + x.length < u.length) (d : Int) : (win u j x).set (j + x.length) d = win u j (x ++ [d]) := by
 unfold win
 rw [List.set_append_right _ _ (by simp; omega)]
 simp only [List.length_append, List.length_take, Nat.min_eq_left (show j ≤ u.length by omega), Nat.sub_self, List.length_singleton]
 rw [List.drop_eq_getElem_cons h, List.set_cons_zero]
 simp [Nat.add_assoc]
theorem rX {u : List Int} {j : Nat} {x : List Int} (hu : Dig u) (hx : Dig x) : Dig (win u j x) := ((hu.take j).append hx).append (hu.drop _)
theorem win_val {u : List Int} {j : Nat} {x : List Int} (h : j + x.length ≤ u.length) : val (win u j x) = val (u.take j) + 4294967296 ^ j * (val x + 4294967296 ^ x.length * val (u.drop (j + x.length))) := by
 unfold win
 rw [List.append_assoc, eg, eg]
 simp [Nat.min_eq_left (show j ≤ u.length by omega)]
theorem np {u : List Int} {j : Nat} {x : List Int} (h : j + x.length ≤ u.length) : (win u j x).drop j = x ++ u.drop (j + x.length) := by
 unfold win
 rw [List.append_assoc, List.drop_append_of_le_length (by simp; omega), List.drop_eq_nil_of_le (by simp; omega)]
 simp
theorem win_win {u : List Int} {j : Nat} {x y : List Int} (h : j + x.length ≤ u.length) (hy : x.length ≤ y.length) (hle : j + y.length ≤ u.length) : win (win u j x) j y = win u j y := by
 have e1 : (win u j x).take j = u.take j := by
  unfold win
  rw [List.append_assoc, List.take_append_of_le_length (by simp; omega), List.take_of_length_le (by simp; omega)]
 have e2 : (win u j x).drop (j + y.length) = u.drop (j + y.length) := by
  rw [← List.drop_drop, np h, List.drop_append, List.drop_eq_nil_of_le hy, List.drop_drop]
  simp; congr 1; omega
 unfold win at *
 rw [e1, e2]
theorem ms_step {x w v p c o g vi ui c' y o' n b : Int} (h : x = w - g * v + p * (c + o)) (hc : c + g * vi = b * c' + y) (hn : n = ui + o' * b - (y + o)) :
 x + p * n = (w + p * ui) - g * (v + p * vi) + p * b * (c' + o') := by subst hn; subst h; grind
theorem pg {l : List Int} {m : Nat} (h : m + 1 < l.length) : val (l.take (m + 2)) = l[m + 1] * (4294967296 * 4294967296 ^ m) + l[m] * 4294967296 ^ m + val (l.take m) := by
 rw [show m + 2 = m + 1 + 1 from rfl, aX h, aX (show m < l.length by omega), Int.pow_succ, Int.mul_comm (l[m + 1]), Int.mul_comm (l[m]), Int.mul_comm 4294967296]
 omega
theorem tj {l : List Int} {m : Nat} (h : m + 2 < l.length) : val (l.take (m + 3)) = (l[m + 2] * 4294967296 + l[m + 1]) * (4294967296 * 4294967296 ^ m) + l[m] * 4294967296 ^ m + val (l.take m) := by
 have e : (4294967296 : Int) ^ (m + 2) = 4294967296 ^ m * 4294967296 * 4294967296 := by rw [Int.pow_succ, Int.pow_succ]
 rw [show m + 3 = m + 2 + 1 from rfl, aX h, pg (show m + 1 < l.length by omega), e]
 generalize (4294967296 : Int) ^ m = p
 grind
end Go.Proofs.YtmjgehbpcchjpaaGreatDoor.E

set_option linter.unusedVariables false
namespace Go.Proofs.YtmjgehbpcchjpaaGreatDoor.E
theorem guess_hi {A D M f d : Int} (hM : 0 < M) (hd : 0 < d) (hD : d * M ≤ D) (hf : A < (f + 1) * M) (hA : 0 ≤ A) : A / D ≤ f / d := by
 have hD0 : 0 < D := Int.lt_of_lt_of_le (Int.mul_pos hd hM) hD
 rw [Int.le_ediv_iff_mul_le hd]
 have h1 : A / D * D ≤ A := Int.ediv_mul_le _ (by omega)
 have q0 : 0 ≤ A / D := Int.ediv_nonneg hA (by omega)
 have h2 : A / D * (d * M) ≤ A / D * D := Int.mul_le_mul_of_nonneg_left hD q0
 have h3 : (A / D * d) * M < (f + 1) * M := by rw [Int.mul_assoc]; omega
 have := Int.lt_of_mul_lt_mul_right h3 (by omega)
 omega
theorem guess_lo {A D M f d : Int} (hM : 0 < M) (hd : 0 < d) (hD0 : 0 < D) (hD : D ≤ (d + 1) * M) (hf : f * M ≤ A) (hf0 : 0 ≤ f) : f / (d + 1) ≤ A / D := by
 rw [Int.le_ediv_iff_mul_le hD0]
 have q0 : 0 ≤ f / (d + 1) := Int.ediv_nonneg hf0 (by omega)
 have h1 : f / (d + 1) * D ≤ f / (d + 1) * ((d + 1) * M) := Int.mul_le_mul_of_nonneg_left hD q0
 have h2 : f / (d + 1) * (d + 1) ≤ f := Int.ediv_mul_le _ (by omega)
 have h3 : f / (d + 1) * (d + 1) * M ≤ f * M := Int.mul_le_mul_of_nonneg_right h2 (by omega)
 rw [← Int.mul_assoc] at h1
 omega
theorem mN {l : List Int} (h : Dig l) : ∀ (j : Nat), l.getD j 0 = val l / 4294967296 ^ j % 4294967296 := by
 induction l with
 | nil => intro j; simp
 | cons d l ih =>
   intro j
   have h1 := h.head
   cases j with
   | zero => simp; omega
   | succ j =>
     have e : (d + 4294967296 * val l) / 4294967296 ^ (j + 1) = val l / 4294967296 ^ j := by
      rw [Int.pow_succ', ← Int.ediv_ediv_of_nonneg (by decide)]
      congr 1
      omega
     rw [bO, e, ← ih h.tail j]
     simp
theorem rq {l : List Int} (h : Dig l) {m : Nat} (hl : val l < 4294967296 ^ (m + 2)) : l.getD (m + 1) 0 * 4294967296 + l.getD m 0 = val l / 4294967296 ^ m := by
 rw [mN h, mN h]
 have e : val l / 4294967296 ^ (m + 1) = val l / 4294967296 ^ m / 4294967296 := by
  rw [Int.pow_succ, Int.ediv_ediv_of_nonneg (Int.le_of_lt (bz m))]
 have h2 : val l / 4294967296 ^ m < 4294967296 * 4294967296 := by
  refine Int.ediv_lt_of_lt_mul (bz m) ?_
  rw [Int.pow_succ, Int.pow_succ] at hl
  rw [Int.mul_comm, ← Int.mul_assoc]
  exact hl
 have h3 : 0 ≤ val l / 4294967296 ^ m := Int.ediv_nonneg (aq h) (Int.le_of_lt (bz m))
 rw [e]
 omega
end Go.Proofs.YtmjgehbpcchjpaaGreatDoor.E

set_option linter.unusedVariables false
namespace Go.Proofs.YtmjgehbpcchjpaaGreatDoor.E
theorem pC {n : Nat} (h : n % 2 = 1) : Nat.Coprime 2 n := by
 rw [Nat.coprime_iff_gcd_eq_one, Nat.gcd_rec, h]; rfl
theorem iX {a b : Nat} (ha : a % 2 = 0) (hb : b % 2 = 1) : Nat.gcd (a / 2) b = Nat.gcd a b := by
 have e : a = 2 * (a / 2) := by omega
 conv => rhs; rw [e]
 exact ((pC hb).gcd_mul_left_cancel _).symm
theorem mM {a b : Nat} (ha : a % 2 = 1) (hb : b % 2 = 0) : Nat.gcd a (b / 2) = Nat.gcd a b := by
 rw [Nat.gcd_comm, iX hb ha, Nat.gcd_comm]
theorem pO {a b : Nat} (h : a ≤ b) : Nat.gcd a (b - a) = Nat.gcd a b := Nat.gcd_sub_self_right h
theorem pP (x y : Nat) : Nat.gcd y (x % y) = Nat.gcd x y := by
 rw [Nat.gcd_comm x y, Nat.gcd_rec y x, Nat.gcd_comm]
theorem sq (a b t : Nat) : Nat.gcd (a * t) (b * t) = Nat.gcd a b * t := Nat.gcd_mul_right ..
end Go.Proofs.YtmjgehbpcchjpaaGreatDoor.E

set_option linter.unusedVariables false
set_option linter.unusedSimpArgs false
namespace Go.Proofs.YtmjgehbpcchjpaaGreatDoor.E
theorem bK {a b : List Int} (ha : Dig a) (hb : Dig b) : (aw (val a * val b)).length ≤ a.length + b.length := by
 refine cu ?_
 rw [Int.pow_add]
 have h1 := dZ ha
 have h2 := dZ hb
 have n1 := aq ha
 have n2 := aq hb
 have p2 := bz b.length
 have e1 : val a * val b ≤ val a * 4294967296 ^ b.length := Int.mul_le_mul_of_nonneg_left (by omega) n1
 have e2 : val a * 4294967296 ^ b.length < 4294967296 ^ a.length * 4294967296 ^ b.length := Int.mul_lt_mul_of_pos_right h1 p2
 omega
theorem gW {a b : Int} {m : Nat} (h1 : 0 ≤ a) (h2 : 0 ≤ b) (ha : (aw a).length ≤ m) (hb : (aw b).length ≤ m) : (aw (a + b)).length ≤ m + 1 := by
 have pow : ∀ {x : Int}, 0 ≤ x → (aw x).length ≤ m → x < 4294967296 ^ m := by
  intro x hx hl
  obtain ⟨k, hk⟩ := Nat.exists_eq_add_of_le hl
  have := dF hx
  have p1 := bz (aw x).length
  have p2 := bz k
  rw [hk, Int.pow_add]
  have : (4294967296 : Int) ^ (aw x).length * 1 ≤ 4294967296 ^ (aw x).length * 4294967296 ^ k := Int.mul_le_mul_of_nonneg_left (by omega) (by omega)
  omega
 refine cu ?_
 rw [Int.pow_succ]
 have := pow h1 ha
 have := pow h2 hb
 omega
structure Raw where
 neg : Bool
 num : List Int
 den : List Int
def sgn (neg : Bool) (n : Int) : Int := if neg then -n else n
def Raw.q (x : Raw) : Rat := mkRat (sgn x.neg (val x.num)) (val x.den).toNat
structure Raw.Ok (x : Raw) (k : Nat) : Prop where
 dn : Dig x.num
 dd : Dig x.den
 ln : x.num.length ≤ k
 ld : x.den.length ≤ k
def ao (r : Rat) : Raw := ⟨decide (r < 0), aw r.num.natAbs, aw r.den⟩
def Fits (r : Rat) (k : Nat) : Prop := (aw r.num.natAbs).length ≤ k ∧ (aw r.den).length ≤ k
theorem Fits.mono {r : Rat} {k l : Nat} (h : Fits r k) (hl : k ≤ l) : Fits r l := ⟨Nat.le_trans h.1 hl, Nat.le_trans h.2 hl⟩
theorem bw {r : Rat} {k : Nat} (h : Fits r k) : (ao r).Ok k := ⟨au _, au _, h.1, h.2⟩
theorem fG (r : Rat) : r < 0 ↔ r.num < 0 := by
 rw [← Rat.not_le, ← Rat.num_nonneg]; omega
theorem be (r : Rat) : (ao r).q = r := by
 unfold ao Raw.q
 simp only [aC (show (0 : Int) ≤ (r.num.natAbs : Int) by omega), aC (show (0 : Int) ≤ (r.den : Int) by omega)]
 have e : sgn (decide (r < 0)) (r.num.natAbs : Int) = r.num := by
  unfold sgn
  by_cases h : r < 0
  ·have := (fG r).1 h
   simp [h]; omega
  ·have : ¬ r.num < 0 := fun h' => h ((fG r).2 h')
   simp [h]; omega
 rw [e, Int.toNat_natCast, mkRat_self']
where
 mkRat_self' : mkRat r.num r.den = r := Rat.mkRat_self r
theorem jn (neg : Bool) (n : Nat) : (sgn neg (n : Int)).natAbs = n := by
 cases neg <;> simp [sgn]
theorem sgn_div (neg : Bool) (n g : Nat) (h : g ∣ n) : sgn neg (n : Int) / (g : Int) = sgn neg ((n / g : Nat) : Int) := by
 cases neg
 ·simp [sgn]
 ·simp only [sgn, if_true]
  rw [Int.neg_ediv_of_dvd (by exact_mod_cast h)]
  simp
theorem ii (neg : Bool) (n d : Nat) (hd : d ≠ 0) : ao (mkRat (sgn neg n) d) = ⟨neg && decide (0 < n / Nat.gcd n d), aw ((n / Nat.gcd n d : Nat) : Int), aw ((d / Nat.gcd n d : Nat) : Int)⟩ := by
 have hnum : (mkRat (sgn neg n) d).num = sgn neg ((n / Nat.gcd n d : Nat) : Int) := by
  rw [Rat.num_mkRat, if_neg hd, jn, Nat.gcd_comm, sgn_div _ _ _ (Nat.gcd_dvd_left n d)]
 have hden : (mkRat (sgn neg n) d).den = d / Nat.gcd n d := by
  rw [Rat.den_mkRat, if_neg hd, jn, Nat.gcd_comm]
 unfold ao
 rw [hnum, hden, jn]
 congr 1
 have e : (mkRat (sgn neg n) d < 0) ↔ sgn neg ((n / Nat.gcd n d : Nat) : Int) < 0 := by rw [← hnum]; exact fG _
 generalize n / Nat.gcd n d = w at *
 cases neg
 ·have : ¬ (mkRat (sgn false n) d < 0) := by rw [e]; simp [sgn]
  simp [this]
 ·by_cases hw : 0 < w
  ·have : mkRat (sgn true n) d < 0 := by rw [e]; simp [sgn]; omega
   simp [this, hw]
  ·have : ¬ mkRat (sgn true n) d < 0 := by rw [e]; simp [sgn]; omega
   simp [this, hw]
theorem bB {x : Int} (h : 0 ≤ x) : ((x.toNat : Nat) : Int) = x := by omega
theorem mI {neg : Bool} {n d k : Nat} (hn : (aw (n : Int)).length ≤ k) (hd : (aw (d : Int)).length ≤ k) (h1 : 1 ≤ k) : Fits (mkRat (sgn neg n) d) k := by
 by_cases h0 : d = 0
 ·subst h0
  rw [Rat.mkRat_zero]
  refine ⟨by simp, ?_⟩
  have : (aw ((0 : Rat).den : Int)) = [1] := by rw [show ((0 : Rat).den : Int) = 1 from rfl, b8 (by decide)]; simp
  rw [this]; simpa using h1
 ·have h := ii neg n d h0
  have e1 : (ao (mkRat (sgn neg n) d)).num = aw ((n / Nat.gcd n d : Nat) : Int) := by rw [h]
  have e2 : (ao (mkRat (sgn neg n) d)).den = aw ((d / Nat.gcd n d : Nat) : Int) := by rw [h]
  unfold Fits
  have a1 : aw ((mkRat (sgn neg n) d).num.natAbs : Int) = aw ((n / Nat.gcd n d : Nat) : Int) := e1
  have a2 : aw ((mkRat (sgn neg n) d).den : Int) = aw ((d / Nat.gcd n d : Nat) : Int) := e2
  rw [a1, a2]
  have l1 := bj (m := ((n / Nat.gcd n d : Nat) : Int)) (n := (n : Int)) (by omega) (Int.ofNat_le.2 (Nat.div_le_self ..))
  have l2 := bj (m := ((d / Nat.gcd n d : Nat) : Int)) (n := (d : Int)) (by omega) (Int.ofNat_le.2 (Nat.div_le_self ..))
  omega
theorem Raw.q_eq (x : Raw) {k : Nat} (h : x.Ok k) : x.q = mkRat (sgn x.neg ((val x.num).toNat : Int)) (val x.den).toNat := by
 unfold Raw.q; rw [bB (aq h.dn)]
theorem Raw.fits {x : Raw} {k : Nat} (h : x.Ok k) (h1 : 1 ≤ k) : Fits x.q k := by
 rw [x.q_eq h]
 have n1 := aq h.dn
 have n2 := aq h.dd
 have l1 := a9 h.dn
 have l2 := a9 h.dd
 have := h.ln
 have := h.ld
 exact mI (by rw [bB n1]; omega) (by rw [bB n2]; omega) h1
def gS (a b : Rat) : Int := if a < b then -1 else if b < a then 1 else 0
def dY (a : Rat) : Int := gS a 0
theorem iY {n : Int} {d : Nat} (hd : d ≠ 0) : mkRat n d < 0 ↔ n < 0 := by
 rw [fG, Rat.num_mkRat, if_neg hd]
 have hg : 0 < Nat.gcd d n.natAbs := Nat.gcd_pos_of_pos_left _ (by omega)
 constructor
 ·intro h
  by_cases h0 : n < 0
  ·exact h0
  ·have := Int.ediv_nonneg (show 0 ≤ n by omega) (show (0 : Int) ≤ (Nat.gcd d n.natAbs : Nat) by omega)
   omega
 ·intro h
  exact Int.ediv_neg_of_neg_of_pos h (by omega)
theorem n5 {n : Int} {d : Nat} (hd : d ≠ 0) : 0 < mkRat n d ↔ 0 < n := by
 have h1 := iY (n := -n) hd
 rw [← Rat.neg_mkRat] at h1
 have : -mkRat n d < 0 ↔ 0 < mkRat n d := by constructor <;> intro h <;> grind
 rw [← this, h1]; omega
theorem sgn_mul (s t : Bool) (a b : Int) : sgn s a * sgn t b = sgn (s != t) (a * b) := by
 cases s <;> cases t <;> simp [sgn, Int.neg_mul, Int.mul_neg]
theorem j3 {a b : Int} {c d : Nat} (hc : c ≠ 0) (hd : d ≠ 0) : mkRat a c < mkRat b d ↔ a * d < b * c := by
 rw [Rat.lt_iff_sub_pos, Rat.sub_eq_add_neg, Rat.neg_mkRat, Rat.mkRat_add_mkRat _ _ hd hc, n5 (Nat.mul_ne_zero hd hc), Int.neg_mul]
 omega
theorem gI : ao 0 = ⟨false, [], aw 1⟩ := by
 unfold ao
 rw [show ((0 : Rat).den : Int) = 1 from rfl, show (((0 : Rat).num.natAbs : Nat) : Int) = 0 from rfl]
 simp
theorem fj : dY 0 = 0 := by decide
theorem fJ {a : Rat} (h : 0 < a) : dY a = 1 := by
 unfold dY gS; rw [if_neg (by grind), if_pos h]
theorem fI {a : Rat} (h : a < 0) : dY a = -1 := by
 unfold dY gS; rw [if_pos h]
theorem Raw.q_zero_den {x : Raw} (h : val x.den = 0) : x.q = 0 := by unfold Raw.q; rw [h]; simp
theorem Raw.q_zero_num {x : Raw} (h : val x.num = 0) : x.q = 0 := by unfold Raw.q; rw [h]; cases x.neg <;> simp [sgn]
theorem Raw.q_neg {x : Raw} {k : Nat} (ok : x.Ok k) (hn : val x.num ≠ 0) (hd : val x.den ≠ 0) (h : x.neg = true) : x.q < 0 := by
 unfold Raw.q
 have n1 := aq ok.dn
 have n2 := aq ok.dd
 rw [iY (by omega), h]; simp [sgn]; omega
theorem Raw.q_pos {x : Raw} {k : Nat} (ok : x.Ok k) (hn : val x.num ≠ 0) (hd : val x.den ≠ 0) (h : x.neg = false) : 0 < x.q := by
 unfold Raw.q
 have n1 := aq ok.dn
 have n2 := aq ok.dd
 rw [n5 (by omega), h]; simp [sgn]; omega
theorem qQ {x y : Raw} {k l : Nat} (hx : x.Ok k) (hy : y.Ok l) : gS x.q y.q = if dY x.q < dY y.q then -1 else if dY x.q > dY y.q then 1 else dY x.q * (if val x.num * val y.den < val y.num * val x.den then -1 else if val y.num * val x.den < val x.num * val y.den then 1 else 0) := by
 have n1 := aq hx.dn
 have n2 := aq hx.dd
 have n3 := aq hy.dn
 have n4 := aq hy.dd
 have tri : ∀ {z : Raw} {k : Nat}, z.Ok k → (z.q = 0 ∧ dY z.q = 0) ∨ (z.q < 0 ∧ dY z.q = -1 ∧ z.neg = true ∧ val z.num ≠ 0 ∧ val z.den ≠ 0) ∨ (0 < z.q ∧ dY z.q = 1 ∧ z.neg = false ∧ val z.num ≠ 0 ∧ val z.den ≠ 0) := by
  intro z k hz
  by_cases hd : val z.den = 0
  ·left; rw [Raw.q_zero_den hd]; exact ⟨rfl, fj⟩
  by_cases hn : val z.num = 0
  ·left; rw [Raw.q_zero_num hn]; exact ⟨rfl, fj⟩
  cases hs : z.neg
  ·have := Raw.q_pos hz hn hd hs
   exact .inr (.inr ⟨this, fJ this, rfl, hn, hd⟩)
  ·have := Raw.q_neg hz hn hd hs
   exact .inr (.inl ⟨this, fI this, rfl, hn, hd⟩)
 rcases tri hx with ⟨a1, a2⟩ | ⟨a1, a2, a3, a4, a5⟩ | ⟨a1, a2, a3, a4, a5⟩ <;> rcases tri hy with ⟨b1, b2⟩ | ⟨b1, b2, b3, b4, b5⟩ | ⟨b1, b2, b3, b4, b5⟩
 ·rw [a2, b2, a1, b1]; simp; decide
 ·rw [a2, b2, a1]; unfold gS; rw [if_neg (by grind), if_pos b1]; simp
 ·rw [a2, b2, a1]; unfold gS; rw [if_pos b1]; simp
 ·rw [a2, b2, b1]; unfold gS; rw [if_pos a1]; simp
 ·have key : x.q < y.q ↔ val y.num * val x.den < val x.num * val y.den := by
   unfold Raw.q
   rw [j3 (by omega) (by omega), a3, b3, bB n2, bB n4]
   simp only [sgn, if_true, Int.neg_mul]; omega
  have key2 : y.q < x.q ↔ val x.num * val y.den < val y.num * val x.den := by
   unfold Raw.q
   rw [j3 (by omega) (by omega), a3, b3, bB n2, bB n4]
   simp only [sgn, if_true, Int.neg_mul]; omega
  rw [a2, b2]
  unfold gS
  simp only [key, key2]
  generalize val y.num * val x.den = s
  generalize val x.num * val y.den = t
  by_cases h : s < t <;> by_cases h' : t < s <;> first | omega | simp [h, h']
 ·rw [a2, b2]; unfold gS; rw [if_pos (by grind)]; simp
 ·rw [a2, b2, b1]; unfold gS; rw [if_neg (by grind), if_pos a1]; simp
 ·rw [a2, b2]; unfold gS; rw [if_neg (by grind), if_pos (by grind)]; simp
 ·have key : x.q < y.q ↔ val x.num * val y.den < val y.num * val x.den := by
   unfold Raw.q
   rw [j3 (by omega) (by omega), a3, b3, bB n2, bB n4]
   simp only [sgn, Bool.false_eq_true, if_false]
  have key2 : y.q < x.q ↔ val y.num * val x.den < val x.num * val y.den := by
   unfold Raw.q
   rw [j3 (by omega) (by omega), a3, b3, bB n2, bB n4]
   simp only [sgn, Bool.false_eq_true, if_false]
  rw [a2, b2]
  unfold gS
  simp only [key, key2]
  generalize val y.num * val x.den = s
  generalize val x.num * val y.den = t
  simp
theorem kJ {s t : Bool} {a b c d : Int} (hc : 0 < c) (hd : 0 < d) : mkRat (sgn s a) c.toNat + mkRat (sgn t b) d.toNat = mkRat (sgn s a * d + sgn t b * c) (c * d).toNat := by
 rw [Rat.mkRat_add_mkRat _ _ (by omega) (by omega), bB (Int.le_of_lt hc), bB (Int.le_of_lt hd)]
 congr 1
 rw [Int.toNat_mul (by omega) (by omega)]
theorem Raw.add_same {x y : Raw} (hx : 0 < val x.den) (hy : 0 < val y.den) (h : x.neg = y.neg) : x.q + y.q = mkRat (sgn x.neg (val x.num * val y.den + val y.num * val x.den)) (val x.den * val y.den).toNat := by
 unfold Raw.q
 rw [kJ hx hy, ← h]
 congr 1
 cases x.neg <;> simp [sgn, Int.neg_mul, Int.neg_add]
theorem Raw.add_ge {x y : Raw} (hx : 0 < val x.den) (hy : 0 < val y.den) (h : x.neg ≠ y.neg) : x.q + y.q = mkRat (sgn x.neg (val x.num * val y.den - val y.num * val x.den)) (val x.den * val y.den).toNat := by
 unfold Raw.q
 rw [kJ hx hy]
 congr 1
 have : y.neg = !x.neg := by cases hx : x.neg <;> cases hy : y.neg <;> simp [hx, hy] at h ⊢
 rw [this]
 cases x.neg <;> simp [sgn, Int.neg_mul] <;> omega
theorem Raw.add_lt {x y : Raw} (hx : 0 < val x.den) (hy : 0 < val y.den) (h : x.neg ≠ y.neg) : x.q + y.q = mkRat (sgn y.neg (val y.num * val x.den - val x.num * val y.den)) (val x.den * val y.den).toNat := by
 unfold Raw.q
 rw [kJ hx hy]
 congr 1
 have : y.neg = !x.neg := by cases hx : x.neg <;> cases hy : y.neg <;> simp [hx, hy] at h ⊢
 rw [this]
 cases x.neg <;> simp [sgn, Int.neg_mul] <;> omega
theorem Raw.mul_q {x y : Raw} {k l : Nat} (hx : x.Ok k) (hy : y.Ok l) : x.q * y.q = mkRat (sgn (x.neg != y.neg) (val x.num * val y.num)) (val x.den * val y.den).toNat := by
 unfold Raw.q
 rw [Rat.mkRat_mul_mkRat, sgn_mul, Int.toNat_mul (aq hx.dd) (aq hy.dd)]
theorem eI {a b : Int} {k l : Nat} (h1 : 0 ≤ a) (h2 : 0 ≤ b) (ha : (aw a).length ≤ k) (hb : (aw b).length ≤ l) : (aw (a * b)).length ≤ k + l := by
 have := bK (au a) (au b)
 rw [aC h1, aC h2] at this
 omega
theorem li {n : Int} {d k : Nat} (hn : (aw (n.natAbs : Int)).length ≤ k) (hd : (aw (d : Int)).length ≤ k) (h1 : 1 ≤ k) : Fits (mkRat n d) k := by
 have e : n = sgn (decide (n < 0)) (n.natAbs : Int) := by unfold sgn; by_cases h : n < 0 <;> simp [h] <;> omega
 rw [e]; exact mI hn hd h1
theorem mH {a b : Rat} {k l : Nat} (ha : Fits a k) (hb : Fits b l) : Fits (a + b) (k + l + 1) := by
 rw [Rat.add_def']
 refine li ?_ ?_ (by omega)
 ·have h1 := eI (a := (a.num.natAbs : Int)) (b := (b.den : Int)) (by omega) (by omega) ha.1 hb.2
  have h2 := eI (a := (b.num.natAbs : Int)) (b := (a.den : Int)) (by omega) (by omega) hb.1 ha.2
  have h3 := gW (m := k + l) (Int.mul_nonneg (show (0 : Int) ≤ (a.num.natAbs : Int) by omega) (show (0 : Int) ≤ (b.den : Int) by omega)) (Int.mul_nonneg (show (0 : Int) ≤ (b.num.natAbs : Int) by omega) (show (0 : Int) ≤ (a.den : Int) by omega)) h1 (by omega)
  refine Nat.le_trans (bj ?_ ?_) h3
  ·have := Int.mul_nonneg (show (0 : Int) ≤ (a.num.natAbs : Int) by omega) (show (0 : Int) ≤ (b.den : Int) by omega)
   have := Int.mul_nonneg (show (0 : Int) ≤ (b.num.natAbs : Int) by omega) (show (0 : Int) ≤ (a.den : Int) by omega)
   omega
  ·have e1 : (a.num * b.den).natAbs = a.num.natAbs * b.den := by rw [Int.natAbs_mul]; simp
   have e2 : (b.num * a.den).natAbs = b.num.natAbs * a.den := by rw [Int.natAbs_mul]; simp
   have e3 : ((a.num.natAbs * b.den : Nat) : Int) = (a.num.natAbs : Int) * b.den := Int.natCast_mul ..
   have e4 : ((b.num.natAbs * a.den : Nat) : Int) = (b.num.natAbs : Int) * a.den := Int.natCast_mul ..
   rw [← e3, ← e4, ← e1, ← e2]
   omega
 ·rw [Int.natCast_mul]
  have := eI (a := (a.den : Int)) (b := (b.den : Int)) (by omega) (by omega) ha.2 hb.2
  omega
theorem pI {a b : Rat} {k l : Nat} (ha : Fits a k) (hb : Fits b l) (h1 : 1 ≤ k) : Fits (a * b) (k + l) := by
 rw [Rat.mul_def']
 refine li ?_ ?_ (by omega)
 ·rw [Int.natAbs_mul, Int.natCast_mul]
  exact eI (by omega) (by omega) ha.1 hb.1
 ·rw [Int.natCast_mul]
  exact eI (by omega) (by omega) ha.2 hb.2
theorem fits_zero : Fits 0 1 := by
 have h := gI
 have e1 : aw ((0 : Rat).num.natAbs : Int) = [] := congrArg Raw.num h
 have e2 : aw ((0 : Rat).den : Int) = aw 1 := congrArg Raw.den h
 have e3 : aw 1 = [1] := by rw [b8 (by decide)]; simp
 unfold Fits; rw [e1, e2, e3]; simp
def Raw.right (x : Raw) : Bool := decide (x.num = aw (val x.num)) && decide (x.den = aw (val x.den)) && !(decide (x.den = [])) && !(decide (x.num = []) && x.neg) && decide (Nat.gcd (val x.num).toNat (val x.den).toNat = 1)
end Go.Proofs.YtmjgehbpcchjpaaGreatDoor.E
