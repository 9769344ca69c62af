/- Joined texts: CRat1, CRat2, CRat3, CRat4, CRat5. -/
import Derived.Test.YtnneehniendnfaaGreatGI
import Derived.Test.YtnneehniendnfaaGreatJFRat
import Derived.Test.YtnneehniendnfaaGreatGF
/- The program's fractions (ratio), by contract. -/
namespace Go.Proofs.YtnneehniendnfaaGreat
open Go Go.Proofs Go.Proofs.YtnneehniendnfaaGreat.E
set_option linter.unusedSimpArgs false
set_option linter.unusedVariables false

/-- A fraction, as a program has it. -/
def E.Raw.v (x : Raw) : V := .agg [.bool x.neg, nat x.num, nat x.den]
/-- A number, as a program has it. -/
def ratV (r : Rat) : V := (rawOf r).v

theorem divV_nat (x g : Nat) (hg : 0 < g) : divV (x : Int) (g : Int) = .tup [nat (digs ((x / g : Nat) : Int)), nat (digs ((x % g : Nat) : Int)), .int .i64 0] := by
  unfold divV; rw [if_neg (by omega)]; simp

theorem ratio_Of {neg : Bool} {a b : List Int} (ha : Dig a) (hb : Dig b) (la : a.length ≤ 2 ^ 33) (lb : b.length ≤ 2 ^ 33) : CallD Tryz.prog F.ratio_Of [.bool neg, nat a, nat b] (· = if val b = 0 then .tup [.agg [.bool false, .dat [], .dat []], .int .i64 31] else .tup [ratV (mkRat (sgn neg (val a)) (val b).toNat), .int .i64 0]) := by
  refine callD_by F.ratio_Of_ok ?_
  unfold F.ratio_Of_c
  simp
  refine callK_of (nat_Gcd ha hb la lb) (by simp) ?_
  simp
  refine callK_of (nat_Compare hb Dig.nil (by omega) (by simp)) (by simp) ?_
  have n1 := val_nonneg ha
  have n2 := val_nonneg hb
  have l1 := digs_le_of ha
  have l2 := digs_le_of hb
  obtain ⟨x, hx⟩ := Int.eq_ofNat_of_zero_le n1
  obtain ⟨y, hy⟩ := Int.eq_ofNat_of_zero_le n2
  have hk1 := val_digs (show (0 : Int) ≤ (Nat.gcd x y : Nat) by omega)
  simp only [hx, hy, Int.toNat_natCast, val_nil] at l1 l2 ⊢
  by_cases h0 : y = 0
  · subst h0
    simp
  · have c1 : ¬ ((y : Int) < 0) := by omega
    have c2 : (0 : Int) < y := by omega
    have c3 : ¬ (y : Int) = 0 := by omega
    have lg := digs_length_mono (m := ((Nat.gcd x y : Nat) : Int)) (n := (y : Int)) (by omega) (Int.ofNat_le.2 (Nat.le_of_dvd (by omega) (Nat.gcd_dvd_right x y)))
    have hg : 0 < Nat.gcd x y := Nat.gcd_pos_of_pos_right _ (by omega)
    have hr := rawOf_mkRat neg x y h0
    have e1 := divV_nat x (Nat.gcd x y) hg
    have e2 := divV_nat y (Nat.gcd x y) hg
    have hd : (0 < (digs (((x / Nat.gcd x y : Nat) : Int))).length) ↔ 0 < x / Nat.gcd x y := by
      rw [List.length_pos_iff, ne_eq, digs_nil_iff]; omega
    simp [c1, c2, c3]
    intro _
    refine callK_of (nat_Div (b := digs ((Nat.gcd x y : Nat) : Int)) ha (digs_dig _) (by omega) (by omega)) (by simp) ?_
    rw [hk1, hx, e1]
    generalize hq1 : x / Nat.gcd x y = q1 at *
    simp [setOb, frz_nil]
    refine callK_of (nat_Div (b := digs ((Nat.gcd x y : Nat) : Int)) hb (digs_dig _) (by omega) (by omega)) (by simp) ?_
    rw [hk1, hy, e2]
    generalize hq2 : y / Nat.gcd x y = q2 at *
    simp [setOb, frz_nil]
    cases neg
    · simp [h0, ratV, Raw.v, hr, setOb]
    · simp [h0, ratV, Raw.v, hr, setOb, hd]
end Go.Proofs.YtnneehniendnfaaGreat

/- The program's fractions (ratio), by contract: Zero, One, made, Sign, Neg, Compare, Same. -/
namespace Go.Proofs.YtnneehniendnfaaGreat
open Go Go.Proofs Go.Proofs.YtnneehniendnfaaGreat.E
set_option linter.unusedSimpArgs false
set_option linter.unusedVariables false

theorem ratio_Zero : CallD Tryz.prog F.ratio_Zero [] (· = ratV 0) := by
  refine callD_by F.ratio_Zero_ok ?_
  unfold F.ratio_Zero_c
  simp
  refine callK_of (nat_Of (n := 1) (by omega) (by omega)) (by simp) ?_
  simp [ratV, rawOf_zero, Raw.v]

theorem ratio_One : CallD Tryz.prog F.ratio_One [] (· = ratV 1) := by
  refine callD_by F.ratio_One_ok ?_
  unfold F.ratio_One_c
  simp
  refine callK_of (nat_Of (n := 1) (by omega) (by omega)) (by simp) ?_
  simp
  refine callK_of (nat_Of (n := 1) (by omega) (by omega)) (by simp) ?_
  simp [ratV, rawOf_one, Raw.v]

theorem ratio_made {neg : Bool} {a b : List Int} (ha : Dig a) (hb : Dig b) (la : a.length ≤ 2 ^ 33) (lb : b.length ≤ 2 ^ 33) : CallD Tryz.prog F.ratio_made [.bool neg, nat a, nat b] (· = ratV (mkRat (sgn neg (val a)) (val b).toNat)) := by
  refine callD_by F.ratio_made_ok ?_
  unfold F.ratio_made_c
  simp [setOb, List.filter_cons]
  refine callK_of (ratio_Of (neg := neg) ha hb la lb) (by simp) ?_
  by_cases h0 : val b = 0
  · simp [h0, setOb, List.filter_cons, frz_nil]
    refine callK_of ratio_Zero (by simp) ?_
    simp [ratV, Raw.v, setOb, List.filter_cons, frz_nil]
  · simp [h0, ratV, Raw.v, setOb, List.filter_cons, frz_nil]

theorem ratio_Sign {x : Raw} (ok : x.Ok (2 ^ 33)) : CallD Tryz.prog F.ratio_Sign [x.v] (· = .int .i64 (sgnR x.q)) := by
  have n1 := val_nonneg ok.dn
  have n2 := val_nonneg ok.dd
  have l1 := ok.ln
  have l2 := ok.ld
  refine callD_by F.ratio_Sign_ok ?_
  unfold F.ratio_Sign_c
  simp [Raw.v]
  refine callK_of (nat_Compare ok.dn Dig.nil (by omega) (by simp)) (by simp) ?_
  by_cases hn : val x.num = 0
  · simp [hn, Raw.q_zero_num hn, sgnR_zero]
  have c1 : ¬ val x.num < 0 := by omega
  have c2 : 0 < val x.num := by omega
  simp [c1, c2]
  refine callK_of (nat_Compare ok.dd Dig.nil (by omega) (by simp)) (by simp) ?_
  by_cases hd : val x.den = 0
  · simp [hd, Raw.q_zero_den hd, sgnR_zero]
  have c3 : ¬ val x.den < 0 := by omega
  have c4 : 0 < val x.den := by omega
  simp [c3, c4]
  cases hs : x.neg
  · rw [sgnR_of_pos (Raw.q_pos ok hn hd hs)]; simp [hs]
  · rw [sgnR_of_neg (Raw.q_neg ok hn hd hs)]; simp [hs]

theorem ratio_Neg {x : Raw} (ok : x.Ok (2 ^ 33)) : CallD Tryz.prog F.ratio_Neg [x.v] (· = ratV (-x.q)) := by
  refine callD_by F.ratio_Neg_ok ?_
  unfold F.ratio_Neg_c
  simp [Raw.v, setOb, List.filter_cons]
  refine callK_of (ratio_made (neg := !x.neg) ok.dn ok.dd ok.ln ok.ld) (by simp) ?_
  have e : mkRat (sgn (!x.neg) (val x.num)) (val x.den).toNat = -x.q := by rw [sgn_not, ← Rat.neg_mkRat]; rfl
  rw [e]
  simp [ratV, Raw.v, setOb, List.filter_cons, frz_nil]

theorem ratio_Compare {x y : Raw} (hx : x.Ok (2 ^ 33)) (hy : y.Ok (2 ^ 33)) : CallD Tryz.prog F.ratio_Compare [x.v, y.v] (· = .int .i64 (cmpR x.q y.q)) := by
  have key := cmpR_cross hx hy
  have b1 : -1 ≤ sgnR x.q ∧ sgnR x.q ≤ 1 := by unfold sgnR cmpR; split; omega; split <;> omega
  have l1 := hx.ln
  have l2 := hx.ld
  have l3 := hy.ln
  have l4 := hy.ld
  refine callD_by F.ratio_Compare_ok ?_
  unfold F.ratio_Compare_c
  simp [Raw.v, setOb, List.filter_cons]
  refine callFK_of (ratio_Sign hx) (by simp [Raw.v, setOb, List.filter_cons]) ?_
  simp
  refine callFK_of (ratio_Sign hy) (by simp [Raw.v, setOb, List.filter_cons]) ?_
  generalize sgnR x.q = s at *
  generalize sgnR y.q = t at *
  by_cases h1 : s < t
  · rw [if_pos h1] at key
    simp [h1, key]
  rw [if_neg h1] at key
  simp only [gt_iff_lt] at key
  by_cases h2 : t < s
  · rw [if_pos h2] at key
    simp [h1, h2, key]
  rw [if_neg h2] at key
  simp [h1, h2, Raw.v]
  refine callFK_of (nat_Mul hx.dn hy.dd (by omega) (by omega)) (by simp) ?_
  simp
  refine callFK_of (nat_Mul hy.dn hx.dd (by omega) (by omega)) (by simp) ?_
  have m1 := Int.mul_nonneg (val_nonneg hx.dn) (val_nonneg hy.dd)
  have m2 := Int.mul_nonneg (val_nonneg hy.dn) (val_nonneg hx.dd)
  simp
  have d1 := digs_mul_val hx.dn hy.dd
  have d2 := digs_mul_val hy.dn hx.dd
  refine callFK_of (nat_Compare (digs_dig _) (digs_dig _) (Nat.le_trans d1 (by omega)) (Nat.le_trans d2 (by omega))) (by simp) ?_
  rw [val_digs m1, val_digs m2]
  have b2 : ∀ c : Int, -1 ≤ c → c ≤ 1 → IntKind.i64.wrap (s * c) = s * c := by
    intro c h1 h2
    have hs : s = -1 ∨ s = 0 ∨ s = 1 := by omega
    have hc : c = -1 ∨ c = 0 ∨ c = 1 := by omega
    rcases hs with rfl | rfl | rfl <;> rcases hc with rfl | rfl | rfl <;> decide
  have b3 : -1 ≤ (if val x.num * val y.den < val y.num * val x.den then -1 else if val y.num * val x.den < val x.num * val y.den then 1 else 0 : Int) ∧ (if val x.num * val y.den < val y.num * val x.den then -1 else if val y.num * val x.den < val x.num * val y.den then 1 else 0 : Int) ≤ 1 := by
    split
    · omega
    · split <;> omega
  generalize (if val x.num * val y.den < val y.num * val x.den then -1 else if val y.num * val x.den < val x.num * val y.den then 1 else 0 : Int) = c at *
  simp [b2 c b3.1 b3.2, key]

theorem cmpR_eq {a b : Rat} : cmpR a b = 0 ↔ a = b := by
  unfold cmpR
  constructor
  · intro h
    split at h
    · simp at h
    · split at h
      · simp at h
      · grind
  · rintro rfl; simp [Rat.lt_irrefl]
theorem cmpR_lt {a b : Rat} : cmpR a b < 0 ↔ a < b := by
  unfold cmpR
  split
  · rename_i h; simp [h]
  · rename_i h; split <;> simp [h]
theorem cmpR_le {a b : Rat} : cmpR a b ≤ 0 ↔ a ≤ b := by
  unfold cmpR
  split
  · rename_i h; simp; grind
  · rename_i h; split <;> simp <;> grind

theorem ratio_Same {x y : Raw} (hx : x.Ok (2 ^ 33)) (hy : y.Ok (2 ^ 33)) : CallD Tryz.prog F.ratio_Same [x.v, y.v] (· = .bool (decide (x.q = y.q))) := by
  refine callD_by F.ratio_Same_ok ?_
  unfold F.ratio_Same_c
  simp [Raw.v, setOb, List.filter_cons]
  refine callK_of (ratio_Compare hx hy) (by simp [Raw.v]) ?_
  simp [cmpR_eq]

theorem ratio_Least {x y : Raw} (hx : x.Ok (2 ^ 33)) (hy : y.Ok (2 ^ 33)) : CallD Tryz.prog F.ratio_Least [x.v, y.v] (· = ratV (if y.q < x.q then y.q else x.q)) := by
  refine callD_by F.ratio_Least_ok ?_
  unfold F.ratio_Least_c
  simp [Raw.v, setOb, List.filter_cons]
  refine callK_of (ratio_Compare hy hx) (by simp [Raw.v]) ?_
  by_cases h : y.q < x.q
  · simp [cmpR_lt, h, setOb, List.filter_cons]
    refine callK_of (ratio_made (neg := y.neg) hy.dn hy.dd hy.ln hy.ld) (by simp) ?_
    simp [ratV, Raw.v, setOb, List.filter_cons, frz_nil, Raw.q]
  · simp [cmpR_lt, h, setOb, List.filter_cons]
    refine callK_of (ratio_made (neg := x.neg) hx.dn hx.dd hx.ln hx.ld) (by simp) ?_
    simp [ratV, Raw.v, setOb, List.filter_cons, frz_nil, Raw.q]

theorem gcd_len {n d m : Nat} (hn : (digs (n : Int)).length ≤ m) (hd : (digs (d : Int)).length ≤ m) : (digs ((Nat.gcd n d : Nat) : Int)).length ≤ m := by
  by_cases h : d = 0
  · subst h; simpa using hn
  · have := digs_length_mono (m := ((Nat.gcd n d : Nat) : Int)) (n := (d : Int)) (by omega) (Int.ofNat_le.2 (Nat.le_of_dvd (by omega) (Nat.gcd_dvd_right n d)))
    omega

theorem ratio_Right {x : Raw} (ok : x.Ok (2 ^ 33)) : CallD Tryz.prog F.ratio_Right [x.v] (· = .bool x.right) := by
  have n1 := val_nonneg ok.dn
  have n2 := val_nonneg ok.dd
  have l1 := ok.ln
  have l2 := ok.ld
  refine callD_by F.ratio_Right_ok ?_
  unfold F.ratio_Right_c
  simp [Raw.v, setOb, List.filter_cons]
  refine callK_of (nat_Right ok.dn (by omega)) (by simp) ?_
  unfold Raw.right
  generalize decide (x.num = digs (val x.num)) = t1
  cases t1
  · simp
  simp
  refine callK_of (nat_Right ok.dd (by omega)) (by simp) ?_
  generalize decide (x.den = digs (val x.den)) = t2
  cases t2
  · simp
  by_cases h3 : x.den = []
  · simp [h3]
  have lg := gcd_len (n := (val x.num).toNat) (d := (val x.den).toNat) (m := 2 ^ 33) (by rw [natCast_toNat n1]; have := digs_le_of ok.dn; omega) (by rw [natCast_toNat n2]; have := digs_le_of ok.dd; omega)
  by_cases h6 : x.num = [] ∧ x.neg = true
  · simp [h3, h6.1, h6.2]
  have h7 : (decide (x.num = []) && x.neg) = false := by
    cases h8 : x.neg
    · simp
    · have : ¬ x.num = [] := fun h => h6 ⟨h, h8⟩
      simp [this]
  have fin : ∀ g : Nat, (digs (g : Int)).length ≤ 2 ^ 33 → ∀ {S : Sl} {σ : Sto} {Q : Sl → Sto → Prop} {rest : List MOper} {d : Option Nat}, (∀ (n : Int) (b : Bool), (b && decide (n = 1)) = decide (g = 1) → Nxt Tryz.prog rest d S Q (.tup [.int .u64 n, .bool b]) σ) → CallK Tryz.prog 94 [nat (digs (g : Int))] σ rest d S Q := by
    intro g lg S σ Q rest d h
    refine callK_rel (nat_Small (digs_dig (g : Int)) (by omega)) (by simp) ?_
    intro r hr
    rw [val_digs (by omega)] at hr
    unfold smallV at hr
    split at hr
    · subst hr
      simp only [behind_eq, V.scalar, List.all_cons, List.all_nil, Bool.and_self, if_true]
      exact h _ _ (by simp; omega)
    · subst hr
      simp only [behind_eq, V.scalar, List.all_cons, List.all_nil, Bool.and_self, if_true]
      exact h _ _ (by simp; omega)
  by_cases h4 : x.num = []
  · have h5 : x.neg = false := by
      cases h8 : x.neg
      · rfl
      · exact (h6 ⟨h4, h8⟩).elim
    simp [h3, eq_true h4, h5]
    refine callK_of (nat_Gcd ok.dn ok.dd l1 l2) (by simp) ?_
    simp
    refine fin _ lg fun n b hb => ?_
    cases b <;> simp at hb <;> simp [hb]
  · have h6 : ¬ ((x.num.length : Int) = 0) := by have := List.length_pos_iff.2 h4; omega
    simp [h3, h4, h6]
    refine callK_of (nat_Gcd ok.dn ok.dd l1 l2) (by simp) ?_
    simp
    refine fin _ lg fun n b hb => ?_
    cases b <;> simp at hb <;> simp [hb]
end Go.Proofs.YtnneehniendnfaaGreat

/- The program's fractions (ratio), by contract: Add, Sub. -/
namespace Go.Proofs.YtnneehniendnfaaGreat
open Go Go.Proofs Go.Proofs.YtnneehniendnfaaGreat.E
set_option linter.unusedSimpArgs false
set_option linter.unusedVariables false

theorem sgnR_eq {a : Rat} : sgnR a = 0 ↔ a = 0 := cmpR_eq

set_option maxHeartbeats 1000000 in
theorem ratio_Add {x y : Raw} (hx : x.Ok (2 ^ 31)) (hy : y.Ok (2 ^ 31)) : CallD Tryz.prog F.ratio_Add [x.v, y.v] (· = ratV (x.q + y.q)) := by
  have n1 := val_nonneg hx.dn
  have n2 := val_nonneg hx.dd
  have n3 := val_nonneg hy.dn
  have n4 := val_nonneg hy.dd
  have l1 := hx.ln
  have l2 := hx.ld
  have l3 := hy.ln
  have l4 := hy.ld
  have hx' : x.Ok (2 ^ 33) := ⟨hx.dn, hx.dd, by omega, by omega⟩
  have hy' : y.Ok (2 ^ 33) := ⟨hy.dn, hy.dd, by omega, by omega⟩
  refine callD_by F.ratio_Add_ok ?_
  unfold F.ratio_Add_c
  simp [Raw.v, setOb, List.filter_cons]
  refine callK_of (ratio_Sign hx') (by simp [Raw.v]) ?_
  by_cases hx0 : x.q = 0
  · simp [sgnR_eq, hx0]
    refine callK_of (ratio_made (neg := y.neg) hy.dn hy.dd (by omega) (by omega)) (by simp) ?_
    simp [ratV, Raw.v, setOb, List.filter_cons, frz_nil, Rat.zero_add, Raw.q]
  simp [sgnR_eq, hx0]
  refine callK_of (ratio_Sign hy') (by simp [Raw.v]) ?_
  by_cases hy0 : y.q = 0
  · simp [sgnR_eq, hy0]
    refine callK_of (ratio_made (neg := x.neg) hx.dn hx.dd (by omega) (by omega)) (by simp) ?_
    simp [ratV, Raw.v, setOb, List.filter_cons, frz_nil, Rat.add_zero, Raw.q]
  have dx : 0 < val x.den := by
    by_cases h : val x.den = 0
    · exact (hx0 (Raw.q_zero_den h)).elim
    · omega
  have dy : 0 < val y.den := by
    by_cases h : val y.den = 0
    · exact (hy0 (Raw.q_zero_den h)).elim
    · omega
  have m1 := Int.mul_nonneg n1 n4
  have m2 := Int.mul_nonneg n3 n2
  have m3 := Int.mul_nonneg n2 n4
  have d1 := digs_mul_val hx.dn hy.dd
  have d2 := digs_mul_val hy.dn hx.dd
  have d3 := digs_mul_val hx.dd hy.dd
  have s1 : x.neg = y.neg → x.q + y.q = _ := Raw.add_same dx dy
  have s2 : x.neg ≠ y.neg → x.q + y.q = _ := Raw.add_ge dx dy
  have s3 : x.neg ≠ y.neg → x.q + y.q = _ := Raw.add_lt dx dy
  simp [sgnR_eq, hy0]
  refine callFK_of (nat_Mul hx.dn hy.dd (by omega) (by omega)) (by simp) ?_
  simp
  refine callFK_of (nat_Mul hy.dn hx.dd (by omega) (by omega)) (by simp) ?_
  simp [frz_nil]
  refine callFK_of (nat_Mul hx.dd hy.dd (by omega) (by omega)) (by simp) ?_
  generalize val x.num * val y.den = A at *
  generalize val y.num * val x.den = B at *
  generalize val x.den * val y.den = D at *
  have vA := val_digs m1
  have vB := val_digs m2
  have vD := val_digs m3
  by_cases hs : x.neg = y.neg
  · have e1 := s1 hs
    have lAB := digs_add_le (m := 2 ^ 32) m1 m2 (by omega) (by omega)
    have vAB := val_digs (show 0 ≤ A + B by omega)
    simp [hs, frz_nil]
    refine callFK_of (nat_Add (digs_dig A) (digs_dig B) (by omega) (by omega)) (by simp) ?_
    rw [vA, vB]
    simp [frz_nil]
    refine callFK_of (ratio_made (neg := y.neg) (digs_dig (A + B)) (digs_dig D) (by omega) (by omega)) (by simp) ?_
    rw [vAB, vD, ← hs, ← e1]
    simp [ratV, Raw.v, setOb, List.filter_cons, frz_nil]
  · have hs' : (x.neg == y.neg) = false := by cases h1 : x.neg <;> cases h2 : y.neg <;> simp [h1, h2] at hs ⊢
    simp [hs', hs, frz_nil]
    refine callK_of (nat_Compare (digs_dig A) (digs_dig B) (by omega) (by omega)) (by simp) ?_
    rw [vA, vB]
    by_cases hlt : A < B
    · have e3 := s3 hs
      have lBA := digs_length_mono (m := B - A) (n := B) m2 (by omega)
      have vBA := val_digs (show 0 ≤ B - A by omega)
      simp [hlt, frz_nil, setOb, List.filter_cons]
      refine callK_of (nat_Sub (digs_dig B) (digs_dig A) (by omega) (by omega)) (by simp) ?_
      rw [vA, vB]
      have hn : ¬ B < A := by omega
      simp [subV, hn, frz_nil, setOb, List.filter_cons]
      refine callK_of (ratio_made (neg := y.neg) (digs_dig (B - A)) (digs_dig D) (by omega) (by omega)) (by simp) ?_
      rw [vBA, vD, ← e3]
      simp [ratV, Raw.v, setOb, List.filter_cons, frz_nil]
    · have e3 := s2 hs
      have lBA := digs_length_mono (m := A - B) (n := A) m1 (by omega)
      have vBA := val_digs (show 0 ≤ A - B by omega)
      have hc : ¬ (if A < B then -1 else if B < A then 1 else 0 : Int) < 0 := by rw [if_neg hlt]; split <;> omega
      generalize (if A < B then -1 else if B < A then 1 else 0 : Int) = c at hc
      simp [hc, frz_nil, setOb, List.filter_cons]
      refine callK_of (nat_Sub (digs_dig A) (digs_dig B) (by omega) (by omega)) (by simp) ?_
      rw [vA, vB]
      simp [subV, hlt, frz_nil, setOb, List.filter_cons]
      refine callK_of (ratio_made (neg := x.neg) (digs_dig (A - B)) (digs_dig D) (by omega) (by omega)) (by simp) ?_
      rw [vBA, vD, ← e3]
      simp [ratV, Raw.v, setOb, List.filter_cons, frz_nil]

theorem ratio_Sub {x y : Raw} (hx : x.Ok (2 ^ 31)) (hy : y.Ok (2 ^ 31)) : CallD Tryz.prog F.ratio_Sub [x.v, y.v] (· = ratV (x.q - y.q)) := by
  refine callD_by F.ratio_Sub_ok ?_
  unfold F.ratio_Sub_c
  simp [Raw.v, setOb, List.filter_cons]
  refine callFK_of (ratio_Neg ⟨hy.dn, hy.dd, Nat.le_trans hy.ln (by omega), Nat.le_trans hy.ld (by omega)⟩) (by simp [Raw.v]) ?_
  simp [ratV, frz_nil, Raw.v]
  refine callFK_of (ratio_Add hx (rawOf_ok (fits_neg (Raw.fits hy (by omega))))) (by simp [Raw.v]) ?_
  rw [rawOf_q, Rat.sub_eq_add_neg]
  simp [ratV, Raw.v, setOb, List.filter_cons, frz_nil]
end Go.Proofs.YtnneehniendnfaaGreat

/- The document's fractions (sortilegeref02), by contract. -/
namespace Go.Proofs.YtnneehniendnfaaGreat
open Go Go.Proofs Go.Proofs.YtnneehniendnfaaGreat.E
set_option linter.unusedSimpArgs false
set_option linter.unusedVariables false

theorem ref02_Zero : CallD Tryz.prog F.ref02_Zero [] (· = ratV 0) := by
  refine callD_by F.ref02_Zero_ok ?_
  unfold F.ref02_Zero_c
  simp
  refine callK_of (ref01_Of (n := 1) (by omega) (by omega)) (by simp) ?_
  simp [ratV, rawOf_zero, Raw.v]

theorem ref02_One : CallD Tryz.prog F.ref02_One [] (· = ratV 1) := by
  refine callD_by F.ref02_One_ok ?_
  unfold F.ref02_One_c
  simp
  refine callK_of (ref01_Of (n := 1) (by omega) (by omega)) (by simp) ?_
  simp
  refine callK_of (ref01_Of (n := 1) (by omega) (by omega)) (by simp) ?_
  simp [ratV, rawOf_one, Raw.v]

theorem ref02_Of {neg : Bool} {a b : List Int} (ha : Dig a) (hb : Dig b) (la : a.length ≤ 2 ^ 33) (lb : b.length ≤ 2 ^ 33) : CallD Tryz.prog F.ref02_Of [.bool neg, nat a, nat b] (· = if val b = 0 then .tup [.agg [.bool false, .dat [], .dat []], .int .i64 31] else .tup [ratV (mkRat (sgn neg (val a)) (val b).toNat), .int .i64 0]) := by
  have n1 := val_nonneg ha
  have n2 := val_nonneg hb
  have l1 := digs_le_of ha
  have l2 := digs_le_of hb
  refine callD_by F.ref02_Of_ok ?_
  unfold F.ref02_Of_c
  simp [setOb, List.filter_cons]
  refine callK_rel (ref01_Bits hb (by omega)) (by simp) ?_
  rintro _ ⟨n, rfl, hn⟩
  obtain ⟨x, hx⟩ := Int.eq_ofNat_of_zero_le n1
  obtain ⟨y, hy⟩ := Int.eq_ofNat_of_zero_le n2
  have hk1 := val_digs (show (0 : Int) ≤ (Nat.gcd x y : Nat) by omega)
  have hG := ref01_Gcd ha hb la lb
  simp only [hx, hy, Int.toNat_natCast, val_nil] at l1 l2 hn hG ⊢
  by_cases h0 : y = 0
  · subst h0
    have : n = 0 := hn.2 rfl
    subst this
    simp [setOb, List.filter_cons]
  · have hn' : ¬ n = 0 := fun h => h0 (by have := hn.1 h; omega)
    have lg := digs_length_mono (m := ((Nat.gcd x y : Nat) : Int)) (n := (y : Int)) (by omega) (Int.ofNat_le.2 (Nat.le_of_dvd (by omega) (Nat.gcd_dvd_right x y)))
    have hg : 0 < Nat.gcd x y := Nat.gcd_pos_of_pos_right _ (by omega)
    have hr := rawOf_mkRat neg x y h0
    have e1 := divV_nat x (Nat.gcd x y) hg
    have e2 := divV_nat y (Nat.gcd x y) hg
    have hd : (0 < (digs (((x / Nat.gcd x y : Nat) : Int))).length) ↔ 0 < x / Nat.gcd x y := by
      rw [List.length_pos_iff, ne_eq, digs_nil_iff]; omega
    simp [hn']
    refine callK_of hG (by simp) ?_
    simp
    refine callK_of (ref01_Div (b := digs ((Nat.gcd x y : Nat) : Int)) ha (digs_dig _) (by omega) (by omega)) (by simp) ?_
    rw [hk1, hx, e1]
    generalize hq1 : x / Nat.gcd x y = q1 at *
    simp
    refine callK_of (ref01_Div (b := digs ((Nat.gcd x y : Nat) : Int)) hb (digs_dig _) (by omega) (by omega)) (by simp) ?_
    rw [hk1, hy, e2]
    generalize hq2 : y / Nat.gcd x y = q2 at *
    simp
    cases neg
    · simp [h0, ratV, Raw.v, hr, setOb, List.filter_cons]
    · simp [h0, ratV, Raw.v, hr, setOb, List.filter_cons, hd]

theorem ref02_valid {x : Raw} (ok : x.Ok (2 ^ 33)) : CallD Tryz.prog F.ref02_valid [x.v] (· = ratV x.q) := by
  refine callD_by F.ref02_valid_ok ?_
  unfold F.ref02_valid_c
  simp [Raw.v, setOb, List.filter_cons]
  refine callK_of (ref02_Of (neg := x.neg) ok.dn ok.dd ok.ln ok.ld) (by simp) ?_
  by_cases h0 : val x.den = 0
  · simp [h0, setOb, List.filter_cons]
    refine callK_of ref02_Zero (by simp) ?_
    simp [ratV, Raw.v, setOb, List.filter_cons, Raw.q_zero_den h0]
  · simp [h0, ratV, Raw.v, setOb, List.filter_cons, Raw.q]

theorem sgnR_raw (r : Rat) : sgnR r = if (rawOf r).num = [] then 0 else if (rawOf r).neg then -1 else 1 := by
  have e : (rawOf r).num = [] ↔ r = 0 := by
    unfold rawOf; simp only [digs_nil_iff]
    rw [← Rat.num_eq_zero]; omega
  have e2 : (rawOf r).neg = decide (r < 0) := rfl
  by_cases h : r = 0
  · rw [if_pos (e.2 h), h]; exact sgnR_zero
  · rw [if_neg (fun h' => h (e.1 h')), e2]
    by_cases h2 : r < 0
    · rw [sgnR_of_neg h2]; simp [h2]
    · rw [sgnR_of_pos (by grind)]; simp [h2]

theorem ref02_Sign {x : Raw} (ok : x.Ok (2 ^ 33)) : CallD Tryz.prog F.ref02_Sign [x.v] (· = .int .i64 (sgnR x.q)) := by
  have e := sgnR_raw x.q
  refine callD_by F.ref02_Sign_ok ?_
  unfold F.ref02_Sign_c
  simp [Raw.v, setOb, List.filter_cons]
  refine callK_of (ref02_valid ok) (by simp [Raw.v]) ?_
  simp [ratV, Raw.v, setOb, List.filter_cons]
  generalize rawOf x.q = r at *
  by_cases h : r.num = []
  · simp [h] at e
    simp [h, e]
  · have h' : ¬ ((r.num.length : Int) = 0) := by have := List.length_pos_iff.2 h; omega
    cases hs : r.neg <;> simp [h, hs] at e <;> simp [h, h', hs, e]

theorem ref02_Neg {x : Raw} (ok : x.Ok (2 ^ 33)) : CallD Tryz.prog F.ref02_Neg [x.v] (· = ratV (-x.q)) := by
  have e : (rawOf (-x.q)) = ⟨!(rawOf x.q).neg && decide (0 < (rawOf x.q).num.length), (rawOf x.q).num, (rawOf x.q).den⟩ := by
    have e1 : 0 < (rawOf x.q).num.length ↔ x.q ≠ 0 := by
      rw [List.length_pos_iff]
      unfold rawOf; simp only [ne_eq, digs_nil_iff]
      rw [← Rat.num_eq_zero]; omega
    unfold rawOf at *
    simp only at e1
    rw [show (-x.q).num = -x.q.num from rfl, show (-x.q).den = x.q.den from rfl, Int.natAbs_neg]
    congr 1
    have e3 : decide (0 < (digs (x.q.num.natAbs : Int)).length) = decide (x.q ≠ 0) := decide_eq_decide.2 e1
    rw [e3]
    by_cases h : x.q < 0
    · have : ¬ -x.q < 0 := by grind
      simp [h, this]
    · by_cases h2 : x.q = 0
      · have a1 : ¬ -x.q < 0 := by rw [h2]; decide
        simp [h, h2, a1]
      · have : -x.q < 0 := by grind
        simp [h, h2, this]
  refine callD_by F.ref02_Neg_ok ?_
  unfold F.ref02_Neg_c
  simp [Raw.v, setOb, List.filter_cons]
  refine callK_of (ref02_valid ok) (by simp [Raw.v]) ?_
  unfold ratV
  rw [e]
  generalize rawOf x.q = r at *
  cases hs : r.neg
  · simp [Raw.v, setOb, List.filter_cons, hs]
  · simp [Raw.v, setOb, List.filter_cons, hs]

theorem canon_den (r : Rat) : 0 < val (rawOf r).den := by
  unfold rawOf; simp only; rw [val_digs (by omega)]
  have := r.den_pos; omega

set_option maxHeartbeats 1000000 in
theorem ref02_Add {x y : Raw} (hx : x.Ok (2 ^ 31)) (hy : y.Ok (2 ^ 31)) : CallD Tryz.prog F.ref02_Add [x.v, y.v] (· = ratV (x.q + y.q)) := by
  have hx' : x.Ok (2 ^ 33) := ⟨hx.dn, hx.dd, Nat.le_trans hx.ln (by omega), Nat.le_trans hx.ld (by omega)⟩
  have hy' : y.Ok (2 ^ 33) := ⟨hy.dn, hy.dd, Nat.le_trans hy.ln (by omega), Nat.le_trans hy.ld (by omega)⟩
  refine callD_by F.ref02_Add_ok ?_
  unfold F.ref02_Add_c
  simp [Raw.v, setOb, List.filter_cons]
  refine callFK_of (ref02_valid hx') (by simp [Raw.v]) ?_
  simp [ratV, Raw.v, setOb, List.filter_cons]
  refine callFK_of (ref02_valid hy') (by simp [Raw.v]) ?_
  simp [ratV, Raw.v, setOb, List.filter_cons]
  have ox := rawOf_ok (Raw.fits hx (by omega))
  have oy := rawOf_ok (Raw.fits hy (by omega))
  have dx := canon_den x.q
  have dy := canon_den y.q
  have qx := rawOf_q x.q
  have qy := rawOf_q y.q
  rw [← qx, ← qy]
  rw [qx, qy]
  have s1 : (rawOf x.q).neg = (rawOf y.q).neg → (rawOf x.q).q + (rawOf y.q).q = _ := Raw.add_same dx dy
  have s2 : (rawOf x.q).neg ≠ (rawOf y.q).neg → (rawOf x.q).q + (rawOf y.q).q = _ := Raw.add_ge dx dy
  have s3 : (rawOf x.q).neg ≠ (rawOf y.q).neg → (rawOf x.q).q + (rawOf y.q).q = _ := Raw.add_lt dx dy
  rw [qx, qy] at s1 s2 s3
  generalize rawOf x.q = u at *
  generalize rawOf y.q = w at *
  have n1 := val_nonneg ox.dn
  have n2 := val_nonneg ox.dd
  have n3 := val_nonneg oy.dn
  have n4 := val_nonneg oy.dd
  have l1 := ox.ln
  have l2 := ox.ld
  have l3 := oy.ln
  have l4 := oy.ld
  have m1 := Int.mul_nonneg n1 n4
  have m2 := Int.mul_nonneg n3 n2
  have m3 := Int.mul_nonneg n2 n4
  have d1 := digs_mul_val ox.dn oy.dd
  have d2 := digs_mul_val oy.dn ox.dd
  have d3 := digs_mul_val ox.dd oy.dd
  refine callFK_of (ref01_Mul ox.dn oy.dd (by omega) (by omega)) (by simp) ?_
  simp
  refine callFK_of (ref01_Mul oy.dn ox.dd (by omega) (by omega)) (by simp) ?_
  simp
  refine callFK_of (ref01_Mul ox.dd oy.dd (by omega) (by omega)) (by simp) ?_
  have pD : 0 < val u.den * val w.den := Int.mul_pos dx dy
  generalize val u.num * val w.den = A at *
  generalize val w.num * val u.den = B at *
  generalize val u.den * val w.den = D at *
  have vA := val_digs m1
  have vB := val_digs m2
  have vD := val_digs m3
  have nD : ¬ D = 0 := by omega
  have lAB := digs_add_le (m := 2 ^ 32) m1 m2 (by omega) (by omega)
  have vAB := val_digs (show 0 ≤ A + B by omega)
  simp
  refine callFK_of (ref01_Add (digs_dig A) (digs_dig B) (by omega) (by omega)) (by simp) ?_
  rw [vA, vB]
  by_cases hs : u.neg = w.neg
  · have e1 := s1 hs
    simp [hs]
    refine callK_of (ref02_Of (neg := w.neg) (digs_dig (A + B)) (digs_dig D) (by omega) (by omega)) (by simp) ?_
    rw [vAB, vD, ← hs, ← e1]
    simp [ratV, Raw.v, setOb, List.filter_cons, nD]
  · have hs' : (u.neg == w.neg) = false := by cases h1 : u.neg <;> cases h2 : w.neg <;> simp [h1, h2] at hs ⊢
    simp [hs', hs]
    refine callK_of (ref01_Compare (digs_dig A) (digs_dig B) (by omega) (by omega)) (by simp) ?_
    rw [vA, vB]
    by_cases hlt : A < B
    · have e3 := s3 hs
      have lBA := digs_length_mono (m := B - A) (n := B) m2 (by omega)
      have vBA := val_digs (show 0 ≤ B - A by omega)
      simp [hlt, setOb, List.filter_cons]
      refine callK_of (ref01_Sub (digs_dig B) (digs_dig A) (by omega) (by omega)) (by simp) ?_
      rw [vA, vB]
      have hn : ¬ B < A := by omega
      simp [subV, hn, setOb, List.filter_cons]
      refine callK_of (ref02_Of (neg := w.neg) (digs_dig (B - A)) (digs_dig D) (by omega) (by omega)) (by simp) ?_
      rw [vBA, vD, ← e3]
      simp [ratV, Raw.v, setOb, List.filter_cons, nD]
    · have e3 := s2 hs
      have lBA := digs_length_mono (m := A - B) (n := A) m1 (by omega)
      have vBA := val_digs (show 0 ≤ A - B by omega)
      have hc : (if A < B then -1 else if B < A then 1 else 0 : Int) ≥ 0 := by rw [if_neg hlt]; split <;> omega
      generalize (if A < B then -1 else if B < A then 1 else 0 : Int) = c at hc
      simp [hc, setOb, List.filter_cons]
      refine callK_of (ref01_Sub (digs_dig A) (digs_dig B) (by omega) (by omega)) (by simp) ?_
      rw [vA, vB]
      simp [subV, hlt, setOb, List.filter_cons]
      refine callK_of (ref02_Of (neg := u.neg) (digs_dig (A - B)) (digs_dig D) (by omega) (by omega)) (by simp) ?_
      rw [vBA, vD, ← e3]
      simp [ratV, Raw.v, setOb, List.filter_cons, nD]

theorem ref02_Sub {x y : Raw} (hx : x.Ok (2 ^ 31)) (hy : y.Ok (2 ^ 31)) : CallD Tryz.prog F.ref02_Sub [x.v, y.v] (· = ratV (x.q - y.q)) := by
  refine callD_by F.ref02_Sub_ok ?_
  unfold F.ref02_Sub_c
  simp [Raw.v, setOb, List.filter_cons]
  refine callFK_of (ref02_Neg ⟨hy.dn, hy.dd, Nat.le_trans hy.ln (by omega), Nat.le_trans hy.ld (by omega)⟩) (by simp [Raw.v]) ?_
  simp [ratV, frz_nil, Raw.v]
  refine callFK_of (ref02_Add hx (rawOf_ok (fits_neg (Raw.fits hy (by omega))))) (by simp [Raw.v]) ?_
  rw [rawOf_q, Rat.sub_eq_add_neg]
  simp [ratV, Raw.v, setOb, List.filter_cons, frz_nil]

theorem sgnR_sub (a b : Rat) : sgnR (a - b) = cmpR a b := by
  unfold sgnR cmpR
  by_cases h : a < b
  · rw [if_pos h, if_pos (by grind)]
  · rw [if_neg h, if_neg (by grind)]
    by_cases h2 : b < a
    · rw [if_pos h2, if_pos (by grind)]
    · rw [if_neg h2, if_neg (by grind)]

theorem Raw.sub_fits {x y : Raw} (hx : x.Ok (2 ^ 31)) (hy : y.Ok (2 ^ 31)) : Fits (x.q - y.q) (2 ^ 33) := by
  exact (fits_sub (Raw.fits hx (by omega)) (Raw.fits hy (by omega))).mono (by omega)

theorem ref02_Compare {x y : Raw} (hx : x.Ok (2 ^ 31)) (hy : y.Ok (2 ^ 31)) : CallD Tryz.prog F.ref02_Compare [x.v, y.v] (· = .int .i64 (cmpR x.q y.q)) := by
  refine callD_by F.ref02_Compare_ok ?_
  unfold F.ref02_Compare_c
  simp [Raw.v, setOb, List.filter_cons]
  refine callK_of (ref02_Sub hx hy) (by simp [Raw.v]) ?_
  simp [ratV, Raw.v]
  refine callK_of (ref02_Sign (rawOf_ok (Raw.sub_fits hx hy))) (by simp [Raw.v]) ?_
  rw [rawOf_q, sgnR_sub]
  simp

theorem ref02_Same {x y : Raw} (hx : x.Ok (2 ^ 31)) (hy : y.Ok (2 ^ 31)) : CallD Tryz.prog F.ref02_Same [x.v, y.v] (· = .bool (decide (x.q = y.q))) := by
  refine callD_by F.ref02_Same_ok ?_
  unfold F.ref02_Same_c
  simp [Raw.v, setOb, List.filter_cons]
  refine callK_of (ref02_Compare hx hy) (by simp [Raw.v]) ?_
  simp [cmpR_eq]

theorem ref02_Least {x y : Raw} (hx : x.Ok (2 ^ 31)) (hy : y.Ok (2 ^ 31)) : CallD Tryz.prog F.ref02_Least [x.v, y.v] (· = ratV (if y.q < x.q then y.q else x.q)) := by
  have hx' : x.Ok (2 ^ 33) := ⟨hx.dn, hx.dd, Nat.le_trans hx.ln (by omega), Nat.le_trans hx.ld (by omega)⟩
  have hy' : y.Ok (2 ^ 33) := ⟨hy.dn, hy.dd, Nat.le_trans hy.ln (by omega), Nat.le_trans hy.ld (by omega)⟩
  refine callD_by F.ref02_Least_ok ?_
  unfold F.ref02_Least_c
  simp [Raw.v, setOb, List.filter_cons]
  refine callK_of (ref02_Compare hy hx) (by simp [Raw.v]) ?_
  by_cases h : y.q < x.q
  · simp [cmpR_lt, h, setOb, List.filter_cons]
    refine callK_of (ref02_valid hy') (by simp [Raw.v]) ?_
    simp [ratV, Raw.v, setOb, List.filter_cons, frz_nil]
  · simp [cmpR_lt, h, setOb, List.filter_cons]
    refine callK_of (ref02_valid hx') (by simp [Raw.v]) ?_
    simp [ratV, Raw.v, setOb, List.filter_cons, frz_nil]

theorem ref02_Mul {x y : Raw} (hx : x.Ok (2 ^ 31)) (hy : y.Ok (2 ^ 31)) : CallD Tryz.prog F.ref02_Mul [x.v, y.v] (· = ratV (x.q * y.q)) := by
  have hx' : x.Ok (2 ^ 33) := ⟨hx.dn, hx.dd, Nat.le_trans hx.ln (by omega), Nat.le_trans hx.ld (by omega)⟩
  have hy' : y.Ok (2 ^ 33) := ⟨hy.dn, hy.dd, Nat.le_trans hy.ln (by omega), Nat.le_trans hy.ld (by omega)⟩
  have ox := rawOf_ok (Raw.fits hx (by omega))
  have oy := rawOf_ok (Raw.fits hy (by omega))
  have dx := canon_den x.q
  have dy := canon_den y.q
  have e := Raw.mul_q ox oy
  rw [rawOf_q, rawOf_q] at e
  refine callD_by F.ref02_Mul_ok ?_
  unfold F.ref02_Mul_c
  simp [Raw.v, setOb, List.filter_cons]
  refine callFK_of (ref02_valid hx') (by simp [Raw.v]) ?_
  simp [ratV, Raw.v, setOb, List.filter_cons]
  refine callFK_of (ref02_valid hy') (by simp [Raw.v]) ?_
  simp [ratV, Raw.v, setOb, List.filter_cons]
  generalize rawOf x.q = u at *
  generalize rawOf y.q = w at *
  have n1 := val_nonneg ox.dn
  have n2 := val_nonneg ox.dd
  have n3 := val_nonneg oy.dn
  have n4 := val_nonneg oy.dd
  have l1 := ox.ln
  have l2 := ox.ld
  have l3 := oy.ln
  have l4 := oy.ld
  have m1 := Int.mul_nonneg n1 n3
  have m3 := Int.mul_nonneg n2 n4
  have d1 := digs_mul_val ox.dn oy.dn
  have d3 := digs_mul_val ox.dd oy.dd
  refine callFK_of (ref01_Mul ox.dn oy.dn (by omega) (by omega)) (by simp) ?_
  simp
  refine callFK_of (ref01_Mul ox.dd oy.dd (by omega) (by omega)) (by simp) ?_
  have pD : 0 < val u.den * val w.den := Int.mul_pos dx dy
  generalize val u.num * val w.num = A at *
  generalize val u.den * val w.den = D at *
  have vA := val_digs m1
  have vD := val_digs m3
  have nD : ¬ D = 0 := by omega
  simp
  refine callFK_of (ref02_Of (neg := !(u.neg == w.neg)) (digs_dig A) (digs_dig D) (by omega) (by omega)) (by simp) ?_
  rw [vA, vD, show (!(u.neg == w.neg)) = (u.neg != w.neg) from rfl, ← e]
  simp [ratV, Raw.v, setOb, List.filter_cons, nD]
end Go.Proofs.YtnneehniendnfaaGreat

/- The document's fractions (sortilegeref02), by contract: Right, Make. -/
namespace Go.Proofs.YtnneehniendnfaaGreat
open Go Go.Proofs Go.Proofs.YtnneehniendnfaaGreat.E
set_option linter.unusedSimpArgs false
set_option linter.unusedVariables false

theorem digs_one_len : (digs 1).length = 1 := by rw [digs_pos (by decide)]; simp

theorem ref02_Right {x : Raw} (ok : x.Ok (2 ^ 33)) : CallD Tryz.prog F.ref02_Right [x.v] (· = .bool x.right) := by
  have n1 := val_nonneg ok.dn
  have n2 := val_nonneg ok.dd
  have l1 := ok.ln
  have l2 := ok.ld
  refine callD_by F.ref02_Right_ok ?_
  unfold F.ref02_Right_c
  simp [Raw.v, setOb, List.filter_cons]
  refine callK_of (ref01_Right ok.dn (by omega)) (by simp) ?_
  unfold Raw.right
  generalize decide (x.num = digs (val x.num)) = t1
  cases t1
  · simp
  simp
  refine callK_of (ref01_Right ok.dd (by omega)) (by simp) ?_
  generalize decide (x.den = digs (val x.den)) = t2
  cases t2
  · simp
  by_cases h3 : x.den = []
  · simp [h3]
  have lg := gcd_len (n := (val x.num).toNat) (d := (val x.den).toNat) (m := 2 ^ 33) (by rw [natCast_toNat n1]; have := digs_le_of ok.dn; omega) (by rw [natCast_toNat n2]; have := digs_le_of ok.dd; omega)
  have v1 := val_digs (show (0 : Int) ≤ 1 by decide)
  by_cases h4 : x.num = []
  · have e0 : (val x.num).toNat = 0 := by rw [h4]; rfl
    cases h5 : x.neg
    · simp [h3, eq_true h4, h5]
      refine callFK_of (ref01_Of (n := 1) (by omega) (by omega)) (by simp) ?_
      simp
      refine callFK_of (ref01_Compare ok.dd (digs_dig 1) (by omega) (by rw [digs_one_len]; omega)) (by simp) ?_
      rw [v1, e0]
      simp
      by_cases h6 : val x.den < 1
      · have : ¬ (val x.den).toNat = 1 := by omega
        simp [h6, this]
      · by_cases h7 : 1 < val x.den
        · have : ¬ (val x.den).toNat = 1 := by omega
          simp [h6, h7, this]
        · have : (val x.den).toNat = 1 := by omega
          simp [h6, h7, this]
    · simp [h3, h4, h5]
  · have h6 : ¬ ((x.num.length : Int) = 0) := by have := List.length_pos_iff.2 h4; omega
    simp [h3, h4, h6]
    refine callK_of (ref01_Gcd ok.dn ok.dd l1 l2) (by simp) ?_
    simp
    refine callK_of (ref01_Of (n := 1) (by omega) (by omega)) (by simp) ?_
    simp
    refine callK_of (ref01_Compare (digs_dig ((Nat.gcd (val x.num).toNat (val x.den).toNat : Nat) : Int)) (digs_dig 1) (by omega) (by rw [digs_one_len]; omega)) (by simp) ?_
    rw [v1, val_digs (by omega)]
    by_cases h6 : ((Nat.gcd (val x.num).toNat (val x.den).toNat : Nat) : Int) < 1
    · have : ¬ Nat.gcd (val x.num).toNat (val x.den).toNat = 1 := by omega
      simp [h6, this]
    · by_cases h7 : (1 : Int) < ((Nat.gcd (val x.num).toNat (val x.den).toNat : Nat) : Int)
      · have : ¬ Nat.gcd (val x.num).toNat (val x.den).toNat = 1 := by omega
        simp [h6, h7, this]
      · have : Nat.gcd (val x.num).toNat (val x.den).toNat = 1 := by omega
        simp [this]

theorem ref02_size {n : Int} (h0 : -9223372036854775808 ≤ n) (h1 : n < 9223372036854775808) : CallD Tryz.prog F.ref02_size [.int .i64 n] (· = .tup [nat (digs (n.natAbs : Int)), .bool (decide (n < 0))]) := by
  refine callD_by F.ref02_size_ok ?_
  unfold F.ref02_size_c
  by_cases h : n < 0
  · simp [h]
    repeat simp (disch := omega) [wrap64, wrapU64]
    refine callK_of (ref01_Of (n := (n.natAbs : Int)) (by omega) (by omega)) (by simp; omega) ?_
    simp
  · simp [h]
    repeat simp (disch := omega) [wrap64, wrapU64]
    refine callK_of (ref01_Of (n := n) (by omega) (by omega)) (by simp) ?_
    have : ((n.natAbs : Nat) : Int) = n := by omega
    simp [this]
end Go.Proofs.YtnneehniendnfaaGreat
