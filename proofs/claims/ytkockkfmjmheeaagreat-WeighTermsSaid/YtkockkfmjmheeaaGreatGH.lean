import Derived.Test.YtkockkfmjmheeaaGreatGD
import Derived.Test.YtkockkfmjmheeaaGreatGC
import Derived.Test.YtkockkfmjmheeaaGreatProg
import Derived.KernelRfl
import Derived.Test.YtkockkfmjmheeaaGreatGE
namespace Go.Proofs.YtkockkfmjmheeaaGreat.F
open Go Go.Proofs Go.Proofs.YtkockkfmjmheeaaGreat.E Go.Proofs.YtkockkfmjmheeaaGreat.Q
abbrev slices_Clone_Nat_uint32 : Nat := 88
def slices_Clone_Nat_uint32_c : MFn := ⟨8,(.seq (r [o 2 (.mv (.c .nils))] [0]) (.seq (.seq (r [o 3 (.mv (.t 0)),o 4 (.binS .eql (.t 3) (.c .nils))] [0,4]) (.cond (.t 4) (.seq (r [o 2 (.mv (.c .nils))] [2]) .ret) .skip)) (.seq (r [o 5 (.buildSl 1 0 [.int .u32 0] []),o 6 (.mv (.t 0)),o 7 (.app 1 4 (.t 5) (.t 6)),o 2 (.mv (.t 7))] [2]) .ret))),[.t 2]⟩
theorem slices_Clone_Nat_uint32_ok : cFn Tryz.prog (kps [[0],[0,4],[2],[2]]) [] 88 = some slices_Clone_Nat_uint32_c := by kernel_rfl
abbrev nat_shifted : Nat := 128
def nat_shifted_c : MFn := ⟨40,(.seq (r [o 4 (.mv (.c .nils))] [0,1]) (.seq (r [o 8 (.mv (.t 0)),o 9 (.lenS (.t 8)),o 10 (.bin .add (.t 9) (i 1)),o 11 (.mkSl 1 4 [.int .u32 0] (.t 10) (.t 10)),o 5 (.mv (.t 11))] [0,1,5]) (.seq (.seq (r [o 12 (.mv (.t 0)),o 13 (.lenS (.t 12)),o 14 (.mv (i 0))] [1,5,12,13,14]) (.block 0 (.loop (.seq (r [o 15 (.bin .lss (.t 14) (.t 13))] [1,5,12,13,14,15]) (.seq (.cond (.t 15) .skip (.exit 0)) (.seq (.block 1 (.seq (r [o 16 (.mv (.t 14)),o 17 (.ixA 1 (.t 12) (.t 14)),o 18 (.ld none (.t 17)),o 6 (.mv (.t 16)),o 7 (.mv (.t 18))] [1,5,6,7,12,13,14]) (.seq (r [o 19 (.mv (.t 5)),o 20 (.mv (.t 6)),o 21 (.ixA 1 (.t 19) (.t 20)),o 22 (.ld none (.t 21)),o 23 (.mv (.t 7)),o 24 (.mv (.t 1)),o 25 (.bin .shl (.t 23) (.t 24)),o 26 (.bin .or (.t 22) (.t 25)),o 27 (.ixA 1 (.t 19) (.t 20)),z (.st 1 (.t 27) (.t 26))] [1,5,6,7,12,13,14]) (r [o 28 (.mv (.t 5)),o 29 (.mv (.t 6)),o 30 (.bin .add (.t 29) (i 1)),o 31 (.mv (.t 7)),o 32 (.cvt .u64 (.t 31)),o 33 (.mv (.t 1)),o 34 (.bin .shl (.t 32) (.t 33)),o 35 (.bin .shr (.t 34) (.c (.int .u64 32))),o 36 (.cvt .u32 (.t 35)),o 37 (.ixA 1 (.t 28) (.t 30)),z (.st 1 (.t 37) (.t 36))] [1,5,12,13,14])))) (r [o 38 (.bin .add (.t 14) (i 1)),o 14 (.mv (.t 38))] [1,5,12,13,14]))))))) (.seq (r [o 39 (.mv (.t 5)),o 4 (.mv (.t 39))] [4]) .ret)))),[.t 4]⟩
theorem nat_shifted_ok : cFn Tryz.prog (kps [[0,1],[0,1,5],[1,5,12,13,14],[1,5,12,13,14,15],[1,5,6,7,12,13,14],[1,5,6,7,12,13,14],[1,5,12,13,14],[1,5,12,13,14],[4]]) [] 128 = some nat_shifted_c := by kernel_rfl
end Go.Proofs.YtkockkfmjmheeaaGreat.F

namespace Go.Proofs.YtkockkfmjmheeaaGreat
open Go Go.Proofs Go.Proofs.YtkockkfmjmheeaaGreat.E
set_option linter.unusedSimpArgs false
set_option linter.unusedVariables false
theorem ring_a {v p c s t r q x y : Int} (hv : v + p * c = s + t) (h : r + 4294967296 * q = c + x + y) : v + p * r + p * 4294967296 * q = s + p * x + (t + p * y) := by grind
theorem slices_Clone {l : List Int} (hl : l.length ≤ 2 ^ 37) : CallD Tryz.prog F.slices_Clone_Nat_uint32 [nat l] (· = nat l) := by
 cases l with
 | nil =>
   refine CallD.empty1 ?_ ?_ <;> refine callD_by F.slices_Clone_Nat_uint32_ok ?_ <;> unfold F.slices_Clone_Nat_uint32_c <;> simp
   rw [toD_digs (st := .own) (l := []) (by simp) (by simp) (by simp)]; simp
 | cons d l =>
   refine callD_by F.slices_Clone_Nat_uint32_ok ?_
   unfold F.slices_Clone_Nat_uint32_c
   have hd : dg (d :: l) = [.int .u32 d] :: dg l := rfl
   simp [nat, hd]
   rw [← hd]
   simp at hl
   repeat simp (disch := omega) [if_pos]
   generalize fresh _ = o'
   rw [toD_digs (st := .own) (l := d :: l) (by simp) (by simp) (by simp)]
   simp
theorem ring_c {s t p c x y q : Int} : s - t + p * c + p * (x + 4294967296 * q - (c + y)) = s + p * x - (t + p * y) + p * 4294967296 * q := by grind
def subV (a b : Int) : V := if a < b then .tup [.dat [], .int .i64 1] else .tup [nat (digs (a - b)), .int .i64 0]
theorem ring_d {V W p q r t c x a b v B : Int} (gv : V + p * q * c = W + p * (a * v)) (hs : r + B * t = c + (x + a * b)) : V + p * q * (r - x) + p * (q * B) * t = W + p * (a * (v + q * b)) := by grind
theorem ring_e {V W p c a A v : Int} (gv : V + c = W + p * (a * v)) (hw : W = A * v) : V + c = (A + p * a) * v := by grind
theorem mul_step {out o a b : List Int} {i k : Nat} {c : Int} (hk : k < b.length) (hok : i + k < o.length) (hi : i < a.length)
 (gv : val (List.take (i + b.length) o) + 4294967296 ^ (i + k) * c = val (List.take (i + b.length) out) + 4294967296 ^ i * (a[i] * val (List.take k b))) :
 val (List.take (i + b.length) (o.set (i + k) ((c + (o[i + k] + a[i] * b[k])) % 4294967296))) + 4294967296 ^ (i + (k + 1)) * ((c + (o[i + k] + a[i] * b[k])) / 4294967296) = val (List.take (i + b.length) out) + 4294967296 ^ i * (a[i] * val (List.take (k + 1) b)) := by
 have h1 : i + k < (o.take (i + b.length)).length := by rw [List.length_take]; omega
 have h2 : (o.take (i + b.length))[i + k] = o[i + k] := List.getElem_take ..
 rw [take_set_lt, val_set h1, h2, val_take_succ hk, Int.pow_add, Int.pow_add, Int.pow_succ]
 rw [Int.pow_add] at gv
 exact ring_d gv (Int.emod_add_mul_ediv _ _)
theorem drop_set_self {l : List Int} {k : Nat} (h : k < l.length) (d : Int) : (l.set k d).drop k = d :: l.drop (k + 1) := by
 rw [List.drop_eq_getElem_cons (by simpa using h)]
 simp only [List.getElem_set_self, List.drop_set]
 rw [if_pos (by omega)]
theorem short_step {v b q r s t y B : Int} (h : v = b * s + t) (hx : q * b + r = t * B + y) : y + B * v = b * (q + B * s) + r := by grind
theorem div_unique {a d q r : Int} (h : a = d * q + r) (h0 : 0 ≤ r) (h1 : r < d) : a / d = q ∧ a % d = r := by
 have hd : d ≠ 0 := by omega
 subst h
 constructor
 ·rw [Int.mul_add_ediv_left _ _ hd, Int.ediv_eq_zero_of_lt h0 h1]; omega
 ·rw [Int.mul_add_emod_self_left]; exact Int.emod_eq_of_lt h0 h1
theorem shift_step {v p x w c r q y B : Int} (hv : v + p * x = w * c) (h : r + B * q = y * c) : v + p * (x + r) + p * B * q = (w + p * y) * c := by grind
theorem nat_shifted_wp {a : List Int} {s : Nat} (ha : Dig a) (la : a.length ≤ 2 ^ 36) (hs : s < 32) {Q : Ex → Sl → Sto → Prop} (hQ : Q .ret (Sl.empty.set 4 (.ref 0 0 (a.length + 1))) [(0, ⟨.own, 1, dg (digsN (a.length + 1) (val a * 2 ^ s))⟩)]) : WpM Tryz.prog [] F.nat_shifted_c.body (argS [nat a, .int .u64 s]) [] Q := by
 unfold F.nat_shifted_c
 simp
 repeat simp (disch := omega) [wrap64, if_pos]
 refine wm_loop (fun g : Nat × List Int => (((((Sl.empty.set 14 (.int .i64 g.1)).set 13 (.int .i64 a.length)).set 12 (nat a)).set 5 (.ref 0 0 (a.length + 1))).set 1 (.int .u64 s), [(0, ⟨.own, 1, dg g.2⟩)]))
  (fun g => Dig g.2 ∧ g.2.length = a.length + 1 ∧ g.1 ≤ a.length ∧ (∀ x, g.2[g.1]? = some x → x < 2 ^ s) ∧ val (g.2.take (g.1 + 1)) = val (a.take g.1) * 2 ^ s) (fun g => a.length - g.1) (0, List.replicate (a.length + 1) 0) ⟨Dig.replicate _, by simp, by simp, by simp; exact Int.pow_pos (by decide), by simp [List.take_replicate]⟩ ?_ ?_
 ·exact weak_digs (fun _ _ h => h) (by simp) (by repeat (first | exact sin_empty | refine sin_set (by simp) ?_))
 rintro ⟨i, o⟩ ⟨hD, hlen, hle, hx, hv⟩
 dsimp only at hD hlen hle hx hv ⊢
 by_cases hi : i < a.length
 ·have hai := ha.get hi
  have hio : i < o.length := by omega
  have hoi := hD.get hio
  have hox := hx _ (List.getElem?_eq_getElem hio)
  simp [hi]
  repeat simp (disch := omega) [wrap64, wrapU64, if_pos]
  have m0 : 0 ≤ a[i] * 2 ^ s := Int.mul_nonneg hai.1 (Int.le_of_lt (Int.pow_pos (by decide)))
  have p31 : (2 : Int) ^ s ≤ 2147483648 := by
   have := Nat.pow_le_pow_right (show 0 < 2 by decide) (show s ≤ 31 by omega)
   have e : ((2 : Int) ^ s) = ((2 ^ s : Nat) : Int) := by simp
   rw [e]; omega
  have m1 : a[i] * 2 ^ s < 4294967296 * 2 ^ s := Int.mul_lt_mul_of_pos_right hai.2 (Int.pow_pos (by decide))
  obtain ⟨e1, e2⟩ := or_shift32 hs hoi.1 hox hai.1
  have e3 : IntKind.u64.wrap (a[i] * 2 ^ s) / 4294967296 % 4294967296 = a[i] * 2 ^ s / 4294967296 := by
   rw [wrapU64 m0 (by omega)]; omega
  rw [e1, e3]
  have hs1 : a[i] * 2 ^ s / 4294967296 < 2 ^ s := Int.ediv_lt_of_lt_mul (by decide) (by omega)
  refine ⟨(i + 1, (o.set i (o[i] + a[i] * 2 ^ s % 4294967296)).set (i + 1) (a[i] * 2 ^ s / 4294967296)), ⟨(hD.set _ (by omega) e2).set _ (by omega) (by omega), by simpa using hlen, hi, ?_, ?_⟩, ?_, weak_digs ?_ (by simp) ?_⟩
  ·intro x hx'
   rw [List.getElem?_set_self (by simp; omega)] at hx'
   injection hx' with hx'
   rw [← hx']; exact hs1
  ·dsimp only
   rw [take_set_succ (by simp; omega), take_set_succ (by omega), val_snoc, val_snoc, val_take_succ hi]
   rw [val_take_succ hio] at hv
   simp only [List.length_append, List.length_take, List.length_singleton, Nat.min_eq_left (Nat.le_of_lt hio)]
   rw [Int.pow_succ]
   exact shift_step hv (Int.emod_add_mul_ediv _ _)
  ·simp; omega
  ·simp; exact fun _ _ h => h
  ·repeat (refine sin_set (by simp) ?_)
   exact sin_empty
 ·simp [hi]
  have hia : i = a.length := by omega
  rw [List.take_of_length_le (by omega), List.take_of_length_le (by omega)] at hv
  rw [← hv, ← hlen, ← digsN_eq hD] at hQ
  rw [hlen] at hQ
  simpa using hQ
theorem nat_shifted {a : List Int} {s : Nat} (ha : Dig a) (la : a.length ≤ 2 ^ 36) (hs : s < 32) : CallD Tryz.prog F.nat_shifted [nat a, .int .u64 s] (· = nat (digsN (a.length + 1) (val a * 2 ^ s))) := by
 refine callD_by F.nat_shifted_ok (nat_shifted_wp ha la hs ?_)
 unfold F.nat_shifted_c
 simp
 rw [toD_digs (st := .own) (l := digsN (a.length + 1) (val a * 2 ^ s)) (by simp) (by simp) (by simp)]
 simp [List.take_of_length_le]
end Go.Proofs.YtkockkfmjmheeaaGreat
