import Derived.Test.YtmjgehbpcchjpaaGreatDoorGA
import Derived.Lib.ItoaNum
import Derived.Test.YtmjgehbpcchjpaaGreatDoorHI
import Derived.Test.YtmjgehbpcchjpaaGreatDoorGC
import Derived.Test.YtmjgehbpcchjpaaGreatDoorProg
import Derived.KernelRfl
import Derived.Test.YtmjgehbpcchjpaaGreatDoorGH
import Derived.Test.YtmjgehbpcchjpaaGreatDoorGJ
import Derived.Test.YtmjgehbpcchjpaaGreatDoorHK
namespace Go.Proofs.YtmjgehbpcchjpaaGreatDoor.F
open Go Go.Proofs Go.Proofs.YtmjgehbpcchjpaaGreatDoor.E Go.Proofs.YtmjgehbpcchjpaaGreatDoor.Q
abbrev slices_Reverse_Sbyte_byte : Nat := 163
def slices_Reverse_Sbyte_byte_c : MFn := ⟨28,(.seq (r [o 4 (.mv (.t 0)),o 5 (.lenS (.t 4)),o 6 (.bin .sub (.t 5) (i 1)),o 2 (.mv (i 0)),o 3 (.mv (.t 6))] [0,2,3]) (.block 0 (.loop (.seq (.seq (r [o 7 (.mv (.t 2)),o 8 (.mv (.t 3)),o 9 (.bin .lss (.t 7) (.t 8))] [0,2,3,9]) (.cond (.t 9) .skip (.exit 0))) (.seq (.block 1 (r [o 14 (.mv (.t 0)),o 15 (.mv (.t 2)),o 16 (.mv (.t 0)),o 17 (.mv (.t 3)),o 18 (.mv (.t 0)),o 19 (.mv (.t 3)),o 20 (.ixA 1 (.t 18) (.t 19)),o 21 (.ld none (.t 20)),o 22 (.mv (.t 0)),o 23 (.mv (.t 2)),o 24 (.ixA 1 (.t 22) (.t 23)),o 25 (.ld none (.t 24)),o 26 (.ixA 1 (.t 14) (.t 15)),z (.st 1 (.t 26) (.t 21)),o 27 (.ixA 1 (.t 16) (.t 17)),z (.st 1 (.t 27) (.t 25))] [0,2,3])) (r [o 10 (.mv (.t 2)),o 11 (.bin .add (.t 10) (i 1)),o 12 (.mv (.t 3)),o 13 (.bin .sub (.t 12) (i 1)),o 2 (.mv (.t 11)),o 3 (.mv (.t 13))] [0,2,3])))))),[]⟩
theorem slices_Reverse_Sbyte_byte_ok : cFn Tryz.prog (kps [[0,2,3],[0,2,3,9],[0,2,3],[0,2,3]]) [] 163 = some slices_Reverse_Sbyte_byte_c := by kernel_rfl
abbrev nat_Text : Nat := 125
def nat_Text_c : MFn := ⟨45,(.seq (r [o 2 (.mv (.c (.str ⟨#[]⟩)))] [0]) (.seq (r [o 6 (.mv (.t 0)),o 7 (.call 152 [(.t 6)]),o 0 (.mv (.t 7))] [0]) (.seq (.seq (r [o 8 (.mv (.t 0)),o 9 (.lenS (.t 8)),o 10 (.bin .eql (.t 9) (i 0))] [0,10]) (.cond (.t 10) (.seq (r [o 2 (.mv (.c (.str ⟨#[48]⟩)))] [2]) .ret) .skip)) (.seq (r [o 3 (.mv (.c .nils))] [0,3]) (.seq (.block 0 (.loop (.seq (.seq (r [o 11 (.mv (.t 0)),o 12 (.lenS (.t 11)),o 13 (.bin .gtr (.t 12) (i 0))] [0,3,13]) (.cond (.t 13) .skip (.exit 0))) (.block 1 (.seq (r [o 4 (.mv (.c (.int .u32 0)))] [0,3]) (.seq (r [o 15 (.mv (.t 0)),o 16 (.call 162 [(.t 15),(.c (.int .u32 1000000000))]),o 14 (.mv (.t 16)),o 17 (.ext (.t 14) 0),o 18 (.ext (.t 14) 1),o 0 (.mv (.t 17)),o 4 (.mv (.t 18))] [0,3,4]) (.seq (r [o 5 (.mv (i 0))] [0,3,4,5]) (.block 2 (.loop (.seq (.seq (r [o 19 (.mv (.t 5)),o 20 (.bin .lss (.t 19) (i 9)),o 21 (.mv (.t 20)),y 22 21 (.mv (.t 0)),y 23 21 (.lenS (.t 22)),y 24 21 (.bin .gtr (.t 23) (i 0)),y 25 21 (.mv (.t 24)),n 26 25 (.mv (.t 4)),n 27 25 (.bin .gtr (.t 26) (.c (.int .u32 0))),y 28 21 (.pick (.t 25) (.c (.bool true)) (.t 27)),o 29 (.pick (.t 21) (.t 28) (.c (.bool false)))] [0,3,4,5,29]) (.cond (.t 29) .skip (.exit 2))) (.seq (.block 3 (.seq (r [o 32 (.mv (.t 3)),o 33 (.mv (.t 4)),o 34 (.bin .rem (.t 33) (.c (.int .u32 10))),o 35 (.bin .add (.c (.int .u32 48)) (.t 34)),o 36 (.cvt .u8 (.t 35)),o 37 (.buildSl 1 1 [.int .u8 0] [(0,(.t 36))]),o 38 (.app 1 1 (.t 32) (.t 37)),o 3 (.mv (.t 38))] [0,3,4,5]) (r [o 39 (.mv (.t 4)),o 40 (.bin .quo (.t 39) (.c (.int .u32 10))),o 4 (.mv (.t 40))] [0,3,4,5]))) (r [o 30 (.mv (.t 5)),o 31 (.bin .add (.t 30) (i 1)),o 5 (.mv (.t 31))] [0,3,4,5])))))))))))) (.seq (r [o 41 (.mv (.t 3)),o 42 (.call 163 [(.t 41)])] [3]) (.seq (r [o 43 (.mv (.t 3)),o 44 (.strB (.t 43)),o 2 (.mv (.t 44))] [2]) .ret))))))),[.t 2]⟩
theorem nat_Text_ok : cFn Tryz.prog (kps [[0],[0],[0,10],[2],[0,3],[0,3,13],[0,3],[0,3,4],[0,3,4,5],[0,3,4,5,29],[0,3,4,5],[0,3,4,5],[0,3,4,5],[3],[2]]) [] 125 = some nat_Text_c := by kernel_rfl
abbrev ratio_Text : Nat := 76
def ratio_Text_c : MFn := ⟨38,(.seq (r [o 1 (.box (.t 0)),o 2 (.mv (.c (.str ⟨#[]⟩)))] [1]) (.seq (r [o 6 (.fA 0 (.t 1)),o 7 (.ld none (.t 6)),o 8 (.fA 1 (.t 1)),o 9 (.ld none (.t 8)),o 10 (.fA 2 (.t 1)),o 11 (.ld none (.t 10)),o 12 (.call 106 [(.t 7),(.t 9),(.t 11)]),z (.st 3 (.t 1) (.t 12))] [1]) (.seq (r [o 13 (.fA 1 (.t 1)),o 14 (.ld none (.t 13)),o 15 (.call 125 [(.t 14)]),o 3 (.mv (.t 15))] [1,3]) (.seq (.seq (r [o 16 (.fA 0 (.t 1)),o 17 (.ld none (.t 16))] [1,3,17]) (.cond (.t 17) (r [o 18 (.mv (.t 3)),o 19 (.binT .add (.c (.str ⟨#[45]⟩)) (.t 18)),o 3 (.mv (.t 19))] [1,3]) .skip)) (.seq (.seq (r [o 21 (.fA 2 (.t 1)),o 22 (.ld none (.t 21)),o 23 (.call 126 [(.t 22)]),o 20 (.mv (.t 23)),o 24 (.ext (.t 20) 0),o 25 (.ext (.t 20) 1),o 4 (.mv (.t 24)),o 5 (.mv (.t 25))] [1,3,4,5]) (.seq (r [o 26 (.mv (.t 5)),o 27 (.mv (.t 26)),y 28 27 (.mv (.t 4)),y 29 27 (.bin .eql (.t 28) (.c (.int .u64 1))),o 30 (.pick (.t 27) (.t 29) (.c (.bool false)))] [1,3,30]) (.cond (.t 30) (.seq (r [o 31 (.mv (.t 3)),o 2 (.mv (.t 31))] [2]) .ret) .skip))) (.seq (r [o 32 (.mv (.t 3)),o 33 (.binT .add (.t 32) (.c (.str ⟨#[47]⟩))),o 34 (.fA 2 (.t 1)),o 35 (.ld none (.t 34)),o 36 (.call 125 [(.t 35)]),o 37 (.binT .add (.t 33) (.t 36)),o 2 (.mv (.t 37))] [2]) .ret)))))),[.t 2]⟩
theorem ratio_Text_ok : cFn Tryz.prog (kps [[1],[1],[1,3],[1,3,17],[1,3],[1,3,4,5],[1,3,30],[2],[2]]) [] 76 = some ratio_Text_c := by kernel_rfl
end Go.Proofs.YtmjgehbpcchjpaaGreatDoor.F

namespace Go.Proofs.YtmjgehbpcchjpaaGreatDoor
open Go Go.Proofs Go.Proofs.YtmjgehbpcchjpaaGreatDoor.E
set_option linter.unusedSimpArgs false
set_option linter.unusedVariables false
def bs (l : List UInt8) : ByteArray := ⟨l.toArray⟩
@[simp] theorem bs_size (l : List UInt8) : (bs l).size = l.length := by simp [bs, ByteArray.size]
@[simp] theorem bs_data (l : List UInt8) : (bs l).data.toList = l := by simp [bs]
theorem dN (a b : List UInt8) : bs a ++ bs b = bs (a ++ b) := by
 apply ByteArray.ext
 simp [bs]
theorem bs_push (l : List UInt8) (b : UInt8) : (bs l).push b = bs (l ++ [b]) := by
 apply ByteArray.ext
 simp [bs, ByteArray.push]
def byC (b : UInt8) : List V := [.int .u8 b.toNat]
theorem q9 (b : UInt8) : UInt8.ofNat ((b.toNat : Int)).toNat = b := by simp
theorem tF (l : List UInt8) : ii (l.map byC) = some (l.map fun b => (b.toNat : Int)) := by
 induction l with
 | nil => rfl
 | cons b l ih => simp only [List.map_cons, byC] at ih ⊢; simp only [ii, ih, Option.map_some]
theorem strOf_go (l : List UInt8) (a : List UInt8) : (l.map fun b => (b.toNat : Int)).foldl (fun r n => r.push (UInt8.ofNat n.toNat)) (bs a) = bs (a ++ l) := by
 induction l generalizing a with
 | nil => simp
 | cons b l ih =>
   simp only [List.map_cons, List.foldl_cons]
   rw [q9, bs_push, ih]
   simp
theorem strOf_by (l : List UInt8) : td (l.map fun b => (b.toNat : Int)) = bs l := by
 have := strOf_go l []
 rw [List.nil_append] at this
 exact this
def cJ (n : Nat) : List UInt8 := if h : n = 0 then [] else UInt8.ofNat (48 + n % 10) :: cJ (n / 10)
termination_by n
decreasing_by omega
theorem eW : cJ 0 = [] := by rw [cJ]; simp
theorem fE {n : Nat} (h : n ≠ 0) : cJ n = UInt8.ofNat (48 + n % 10) :: cJ (n / 10) := by rw [cJ]; simp [h]
theorem rY : ∀ {n : Nat}, n ≠ 0 → (cJ n).reverse = Lib.decDigits n := by
 intro n
 induction n using Nat.strongRecOn with
 | _ n ih =>
   intro h
   rw [fE h, Lib.decDigits]
   by_cases h10 : n < 10
   ·have e0 : n / 10 = 0 := by omega
    have e1 : n % 10 = n := by omega
    simp [h10, e0, e1, eW]
   ·rw [dif_neg h10, List.reverse_cons, ih (n / 10) (by omega) (by omega)]
theorem jy {k : Nat} : ∀ {n : Nat}, n < 10 ^ k → (cJ n).length ≤ k := by
 induction k with
 | zero => intro n h; have : n = 0 := by omega
           subst this; simp [eW]
 | succ k ih =>
   intro n h
   by_cases h0 : n = 0
   ·subst h0; simp [eW]
   ·rw [fE h0, List.length_cons]
    have := ih (n := n / 10) (by rw [Nat.pow_succ] at h; omega)
    omega
def kX (n : Nat) : List UInt8 := Lib.decDigits n
theorem kY : kX 0 = [48] := by unfold kX; rw [Lib.decDigits]; simp
theorem np {n : Nat} (h : n ≠ 0) : kX n = (cJ n).reverse := (rY h).symm
theorem nn {k n : Nat} (h : n < 10 ^ k) : (kX n).length ≤ k + 1 := by
 by_cases h0 : n = 0
 ·subst h0; simp [kY]
 ·rw [np h0, List.length_reverse]; have := jy h; omega
theorem rZ : ∀ {n : Nat}, ∀ b ∈ cJ n, 48 ≤ b.toNat := by
 intro n
 induction n using Nat.strongRecOn with
 | _ n ih =>
   intro b hb
   by_cases h0 : n = 0
   ·subst h0; simp [eW] at hb
   ·rw [fE h0] at hb
    rcases List.mem_cons.1 hb with rfl | hb
    ·simp; omega
    ·exact ih (n / 10) (by omega) b hb
theorem q7 {n : Nat} : ∀ b ∈ kX n, 48 ≤ b.toNat := by
 by_cases h0 : n = 0
 ·subst h0; simp [kY]
 ·intro b hb; rw [np h0, List.mem_reverse] at hb; exact rZ b hb
abbrev byR (l : List UInt8) : List (List V) := l.map byC
abbrev obB (l : List UInt8) : Ob := ⟨.own, 1, byR l⟩
theorem ky (l : List UInt8) : ea (obB l).cells := by
 intro r hr y hy p
 obtain ⟨x, _, rfl⟩ := List.mem_map.1 hr
 simp [byC] at hy; subst hy; simp [V.within]
def fj (l : List UInt8) (k : Nat) : List UInt8 := (List.range l.length).map fun t => if t < k ∨ l.length ≤ t + k then l.getD (l.length - 1 - t) 0 else l.getD t 0
theorem eg (l : List UInt8) (k : Nat) : (fj l k).length = l.length := by simp [fj]
theorem gF {l : List UInt8} {k t : Nat} (h : t < (fj l k).length) : (fj l k)[t] = if t < k ∨ l.length ≤ t + k then l.getD (l.length - 1 - t) 0 else l.getD t 0 := by simp [fj]
theorem uo (l : List UInt8) : fj l 0 = l := by
 refine List.ext_getElem (eg l 0) fun t h1 h2 => ?_
 rw [gF, if_neg (by omega)]
 simp [List.getD, h2]
theorem um {l : List UInt8} {k j : Nat} (hj : k + j + 1 = l.length) (h : k < j) (a1 : k < (fj l k).length) (a2 : j < (fj l k).length) :
 ((fj l k).set k (fj l k)[j]).set j (fj l k)[k] = fj l (k + 1) := by
 refine List.ext_getElem (by simp [eg]) fun t h1 h2 => ?_
 have ht : t < l.length := by rw [eg] at h2; exact h2
 have g1 := gF a1
 have g2 := gF a2
 have g3 := gF h2
 have g4 := gF (l := l) (k := k) (t := t) (by rw [eg]; exact ht)
 rw [List.getElem_set, List.getElem_set, g3]
 by_cases e1 : j = t
 ·rw [if_pos e1, g1, if_neg (by omega), if_pos (by omega)]
  congr 1; omega
 ·rw [if_neg e1]
  by_cases e2 : k = t
  ·rw [if_pos e2, g2, if_neg (by omega), if_pos (by omega)]
   congr 1; omega
  ·rw [if_neg e2, g4]
   by_cases e3 : t < k ∨ l.length ≤ t + k
   ·rw [if_pos e3, if_pos (by omega)]
   ·rw [if_neg e3, if_neg (by omega)]
theorem revK_end {l : List UInt8} {k : Nat} (h : l.length ≤ k + k + 1) : fj l k = l.reverse := by
 refine List.ext_getElem (by simp [eg]) fun t h1 h2 => ?_
 have ht : t < l.length := by rw [eg] at h1; exact h1
 rw [gF, List.getElem_reverse]
 by_cases e : t < k ∨ l.length ≤ t + k
 ·rw [if_pos e]; simp [List.getD, show l.length - 1 - t < l.length by omega]
 ·rw [if_neg e]
  have : t = l.length - 1 - t := by omega
  simp [List.getD, ht]
  congr 1
set_option maxHeartbeats 4000000 in
theorem nL {σ : Sto} {o : Nat} {l : List UInt8} (hl : l.length ≤ 1000000000) (h0 : 0 < l.length) (ho : E.look σ o = some (obB l)) (hs : cA σ) :
 CallX Tryz.prog F.slices_Reverse_Sbyte_byte [.ref o 0 l.length] σ (fun v s => v = .tup [] ∧ s = ac σ o (obB l.reverse)) := by
 refine cD F.slices_Reverse_Sbyte_byte_ok ?_
 unfold F.slices_Reverse_Sbyte_byte_c
 have hoK : (E.look σ o).isSome = true := by rw [ho]; rfl
 simp
 rw [ak (by omega) (by omega)]
 obtain ⟨n, hn⟩ : ∃ n, l.length = n + 1 := ⟨l.length - 1, by omega⟩
 refine aD (fun g : Nat × Nat => (((Sl.empty.set 3 (.int .i64 g.2)).set 2 (.int .i64 g.1)).set 0 (.ref o 0 l.length), ac σ o (obB (fj l g.1))))
  (fun g => g.1 + g.2 + 1 = l.length ∧ g.1 ≤ g.2 + 1) (fun g => g.2) (0, n) (by dsimp only; omega) ?_ ?_
 ·refine aN ?_ ?_ (aX aO) ?_ (aG hs (ky _))
  ·repeat (first | exact ae | refine aj (by simp [hn]) ?_)
  ·intro p x
   rw [ai]
   split
   ·rename_i e; rw [e, ho, uo]; exact id
   ·exact id
  ·repeat (first | exact aa | refine ah (by simp [V.within]) ?_)
 rintro ⟨k, j⟩ ⟨hj, hk⟩
 dsimp only at hj hk
 by_cases c : k < j
 ·have a1 : k < (fj l k).length := by rw [eg]; omega
  have a2 : j < (fj l k).length := by rw [eg]; omega
  have hk1 : k < l.length := by omega
  have hk2 : j < l.length := by omega
  have stp := um hj c a1 a2
  have e3 : ((List.map byC (fj l k)).set k [.int .u8 (fj l k)[j].toNat]).set j [.int .u8 (fj l k)[k].toNat] = List.map byC (fj l (k + 1)) := by rw [← stp, List.map_set, List.map_set]; rfl
  have bg : ∀ b : UInt8, byC b = [.int .u8 b.toNat] := fun _ => rfl
  have e4 : ∀ h : j < ((List.map byC (fj l k)).set k [.int .u8 (fj l k)[j].toNat]).length, ((List.map byC (fj l k)).set k [.int .u8 (fj l k)[j].toNat])[j]'h = [.int .u8 (fj l k)[j].toNat] := fun h => by
   rw [List.getElem_set_ne (by omega)]; simp [bg]
  simp [c, hk1, hk2, a1, a2, bg, eg, hoK, du, e4]
  rw [e3, ak (by omega) (by omega), ak (by omega) (by omega)]
  refine ⟨(k + 1, j - 1), ⟨by dsimp only; omega, by dsimp only; omega⟩, by dsimp only; omega, ?_⟩
  have ej : ((j - 1 : Nat) : Int) = (j : Int) - 1 := by omega
  refine aN ?_ ?_ (aX aO) ?_ (aG hs (ky _))
  ·repeat (first | exact ae | refine aj (by simp [ej]) ?_)
  ·intro p y
   simp only [ai]
   split <;> exact id
  ·repeat (first | exact aa | refine ah (by simp [V.within]) ?_)
 ·have hin := revK_end (l := l) (k := k) (by omega)
  simp [c]
  exact bW (r := .tup []) (l := []) (by simp) (by simp) rfl (Has.refl _) (aX aO) (aG hs (ky _)) (by simp) ⟨rfl, by rw [hin]⟩
theorem dec_step {d q j : Nat} (h : d + 10 ^ (j + 1) * q ≠ 0) : cJ (d + 10 ^ (j + 1) * q) = UInt8.ofNat (48 + d % 10) :: cJ (d / 10 + 10 ^ j * q) := by
 have e : d + 10 ^ (j + 1) * q = d + 10 * (10 ^ j * q) := by rw [Nat.pow_succ, Nat.mul_comm (10 ^ j) 10, Nat.mul_assoc]
 rw [fE h, e]
 have e1 : (d + 10 * (10 ^ j * q)) % 10 = d % 10 := by omega
 have e2 : (d + 10 * (10 ^ j * q)) / 10 = d / 10 + 10 ^ j * q := by omega
 rw [e1, e2]
theorem tE {d : Nat} : byC (UInt8.ofNat (48 + d % 10)) = [.int .u8 (48 + (d : Int) % 10)] := by
 have : (UInt8.ofNat (48 + d % 10)).toNat = 48 + d % 10 := by simp; omega
 simp only [byC, this]
 norm_cast
abbrev txS (o : Nat) (B : List UInt8) : Sto := dq o 1 B.length (byR B)
theorem sG (o : Nat) (B : List UInt8) : ∀ p ∈ txS o B, ∀ r ∈ p.2.cells, ∀ y ∈ r, ∀ f : Nat → Bool, y.within f = true := by
 intro p hp r hr y hy f
 by_cases h0 : B.length = 0
 ·rw [txS, h0, aL] at hp; simp at hp
 ·rw [txS, aw h0] at hp
  simp at hp; subst hp
  exact ky B r hr y hy f
theorem th (o : Nat) : txS o [] = [] := rfl
theorem g9 {o : Nat} {B : List UInt8} (h : ¬ B.length = 0) : txS o B = [(o, obB B)] := aw h
theorem kJ {S : Sl} {σ : Sto} {S1 : Sl} {o : Nat} {B : List UInt8} (h1 : Sub S1 S) (h2 : B ≠ [] → E.look σ o = some (obB B)) (h3 : SIn (fun q => ((txS o B).map (·.1)).contains q) S1) : Weak [] S1 (txS o B) S σ := by
 refine aC h1 (fun p hp => ?_) h3 (fun p hp r hr y hy => sG o B p hp r hr y hy _)
 by_cases b0 : B.length = 0
 ·rw [txS, b0, aL] at hp; simp at hp
 ·rw [g9 b0] at hp
  simp at hp; subst hp
  exact h2 (fun e => b0 (by rw [e]; rfl))
theorem rI (o : Nat) (B : List UInt8) : (bA o B.length).within (fun q => ((txS o B).map (·.1)).contains q) = true := by
 by_cases b0 : B.length = 0
 ·rw [b0, aF]; simp
 ·rw [az b0, g9 b0]; simp
theorem tx_shut {o : Nat} {B : List UInt8} : cA [(o, obB B)] := mD (fun p hp r hr y hy => by simp at hp; subst hp; exact ky B r hr y hy _)
theorem ti {o : Nat} {B : List UInt8} (h : B ≠ []) : E.look (txS o B) o = some (obB B) := by
 rw [g9 (fun e => h (List.length_eq_zero_iff.1 e))]; simp [E.look]
@[simp] theorem wp_strB {P : Program} {S : Sl} {σ : Sto} {d : Option Nat} {rest : List MOper} {Q : Sl → Sto → Prop} {x} : WpOps P (⟨d, .strB x, none⟩ :: rest) S σ Q = Opt (ba S σ (.strB x)) (Nxt P rest d S Q) := bK rfl
theorem pA (n : Nat) : au (n : Int) = [] ↔ n = 0 := by rw [bL]; omega
theorem sR {n : Nat} (h : ¬ n = 0) : 0 < (au (n : Int)).length := List.length_pos_iff.2 fun e => h ((pA n).1 e)
theorem oU {l : List Int} (hd : Dig l) : ∃ N : Nat, val l = (N : Int) ∧ N < 10 ^ (10 * l.length) ∧ ∀ n ≤ N, (au (n : Int)).length ≤ l.length := by
 have h1 := dU hd
 obtain ⟨N, hN⟩ : ∃ N : Nat, val l = (N : Int) := ⟨(val l).toNat, by have := ao hd; omega⟩
 rw [hN] at h1
 refine ⟨N, hN, ?_, fun n hn => bO (by omega)⟩
 have e : ((4294967296 ^ l.length : Nat) : Int) = (4294967296 : Int) ^ l.length := by rw [Int.natCast_pow]; rfl
 have h2 : N < 4294967296 ^ l.length := by omega
 rw [Nat.pow_mul]
 exact Nat.lt_of_lt_of_le h2 (Nat.pow_le_pow_left (by omega) _)
set_option maxHeartbeats 8000000 in
theorem nat_Text {l : List Int} (hd : Dig l) (hl : l.length ≤ 2 ^ 26) : CallD Tryz.prog F.nat_Text [nat l] (· = .str (bs (kX (val l).toNat))) := by
 refine av F.nat_Text_ok ?_
 unfold F.nat_Text_c
 simp
 refine ag (nat_trim hd (by omega)) (by simp) ?_
 obtain ⟨N, hv, hT, len⟩ := oU hd
 have eN : (val l).toNat = N := by omega
 rw [eN, hv]
 by_cases h0 : N = 0
 ·subst h0
  simp [kY, bs]
 simp [pA, h0]
 refine aD (fun g : Nat × Nat × List UInt8 => ((Sl.empty.set 3 (bA g.1 g.2.2.length)).set 0 (nat (au (g.2.1 : Int))), txS g.1 g.2.2)) (fun g => g.2.2 ++ cJ g.2.1 = cJ N ∧ g.2.1 ≤ N) (fun g => g.2.1) (0, N, []) (by simp) ?_ ?_
 ·refine kJ (o := 0) (B := []) ?_ (fun h => absurd rfl h) ?_
  ·repeat (first | exact ae | refine aj (by simp [aF]) ?_)
  ·repeat (first | exact aa | refine ah (by first | exact rI _ _ | simp) ?_)
 rintro ⟨o, n, B⟩ ⟨he, hn⟩
 dsimp only at he hn
 by_cases c : n = 0
 ·subst c
  rw [eW, List.append_nil] at he
  have b0 : 0 < B.length := List.length_pos_iff.2 fun h => by
   rw [h] at he; rw [fE h0] at he; cases he
  have b1 : ¬ B.length = 0 := by omega
  have bl : B.length ≤ 1000000000 := by
   rw [he]
   exact Nat.le_trans (jy hT) (by omega)
  simp [iP, az b1, g9 b1]
  refine bR (nL bl b0 (by simp [E.look]) tx_shut) ?_
  rintro r s ⟨rfl, rfl⟩
  have rl : B.reverse.length = B.length := by simp
  have tk : List.take B.length (byR B.reverse) = byR B.reverse := List.take_of_length_le (by simp)
  simp [ac, List.filter_cons, -List.map_reverse, rl, tk, tF, strOf_by]
  rw [np h0, ← he]
 have key := nat_short (a := au (n : Int)) (d := 1000000000) (ax _) (by have := len n hn; omega) (by omega) (by omega)
 rw [aA (by omega)] at key
 obtain ⟨q, hq⟩ : ∃ q, n / 1000000000 = q := ⟨_, rfl⟩
 obtain ⟨d, hd'⟩ : ∃ d, n % 1000000000 = d := ⟨_, rfl⟩
 have e1 : (n : Int) / 1000000000 = (q : Int) := by omega
 have e2 : (n : Int) % 1000000000 = (d : Int) := by omega
 rw [e1, e2] at key
 simp [pA, c, sR c]
 refine ag key (by simp) ?_
 simp
 refine aD (fun g : Nat × Nat × Nat × List UInt8 => ((((Sl.empty.set 5 (.int .i64 g.2.1)).set 4 (.int .u32 g.2.2.1)).set 3 (bA g.1 g.2.2.2.length)).set 0 (nat (au (q : Int))), txS g.1 g.2.2.2))
  (fun g => g.2.1 ≤ 9 ∧ g.2.2.1 < 10 ^ (9 - g.2.1) ∧ g.2.2.2 ++ cJ (g.2.2.1 + 10 ^ (9 - g.2.1) * q) = cJ N) (fun g => 9 - g.2.1) (o, 0, d, B) ?_ ?_ ?_
 ·refine ⟨by dsimp only; omega, by dsimp only; omega, ?_⟩
  dsimp only
  rw [← he]
  congr 2; omega
 ·refine kJ (o := o) (B := B) ?_ (fun h => ?_) ?_
  ·repeat (first | exact ae | refine aj (by simp) ?_)
  ·rw [g9 (fun e => h (List.length_eq_zero_iff.1 e))]; simp [E.look]
  ·repeat (first | exact aa | refine ah (by first | exact rI _ _ | simp) ?_)
 rintro ⟨o, i, d, B⟩ ⟨hi, hd2, he2⟩
 dsimp only at hi hd2 he2
 have fin : d + 10 ^ (9 - i) * q = q → B ++ cJ q = cJ N := fun e => by rw [e] at he2; exact he2
 have qn : q < n := by omega
 by_cases c9 : i < 9
 case neg =>
  have : i = 9 := by omega
  subst this
  have d0 : d = 0 := by simp at hd2; exact hd2
  simp
  refine ⟨(o, q, B), ⟨fin (by simp [d0]), by dsimp only; omega⟩, by dsimp only; omega, kJ (o := o) (B := B) ?_ ti ?_⟩
  ·repeat (first | exact ae | refine aj (by simp) ?_)
  ·repeat (first | exact aa | refine ah (by first | exact rI _ _ | simp) ?_)
 have hi64 : (i : Int) < 9 := by omega
 obtain ⟨j, hj⟩ : ∃ j, 9 - i = j + 1 := ⟨8 - i, by omega⟩
 have hj2 : 9 - (i + 1) = j := by omega
 by_cases z : q = 0 ∧ d = 0
 ·obtain ⟨rfl, rfl⟩ := z
  simp [hi64, iP]
  refine ⟨(o, 0, B), ⟨fin (by simp), by dsimp only; omega⟩, by dsimp only; omega, kJ (o := o) (B := B) ?_ ti ?_⟩
  ·repeat (first | exact ae | refine aj (by simp [iP]) ?_)
  ·repeat (first | exact aa | refine ah (by first | exact rI _ _ | simp) ?_)
 have mz : d + 10 ^ (j + 1) * q ≠ 0 := by
  intro e
  have : 0 < 10 ^ (j + 1) := Nat.pow_pos (by omega)
  rcases Nat.mul_eq_zero.1 (show 10 ^ (j + 1) * q = 0 by omega) with h | h
  ·omega
  ·exact z ⟨h, by omega⟩
 rw [hj] at hd2 he2
 rw [dec_step mz] at he2
 have d32 : d < 4294967296 := Nat.lt_of_lt_of_le hd2 (Nat.le_trans (Nat.pow_le_pow_right (by omega) (show j + 1 ≤ 9 by omega)) (by omega))
 have hd3 : d / 10 < 10 ^ j := by rw [Nat.pow_succ] at hd2; omega
 have t1 : ((d : Int)).tmod 10 = (d : Int) % 10 := Int.tmod_eq_emod_of_nonneg (by omega)
 have t2 : ((d : Int)).tdiv 10 = (d : Int) / 10 := Int.tdiv_eq_ediv_of_nonneg (by omega)
 have t3 : IntKind.u32.wrap ((d : Int) / 10) = (d : Int) / 10 := tp (by omega) (by omega)
 have t4 : IntKind.u32.wrap (48 + (d : Int) % 10) = 48 + (d : Int) % 10 := tp (by omega) (by omega)
 have t6 : ((d : Int) / 10) % 4294967296 = (d : Int) / 10 := by omega
 have t5 : IntKind.u8.wrap (48 + (d : Int) % 10) = 48 + (d : Int) % 10 := nX (by omega) (by omega)
 have bc := tE (d := d)
 have he3 : (B ++ [UInt8.ofNat (48 + d % 10)]) ++ cJ (d / 10 + 10 ^ (9 - (i + 1)) * q) = cJ N := by rw [hj2, List.append_assoc]; exact he2
 have bl : B.length ≤ 1000000000 := by
  have h1 : (cJ N).length ≤ 10 * l.length := jy hT
  rw [← he3] at h1
  simp at h1; omega
 have fin2 : ∀ (S : Sl) (σ : Sto) (o' : Nat), E.Sub (((((Sl.empty.set 5 (.int .i64 ((i + 1 : Nat) : Int))).set 4 (.int .u32 ((d / 10 : Nat) : Int))).set 3 (bA o' (B ++ [UInt8.ofNat (48 + d % 10)]).length)).set 0 (nat (au (q : Int))))) S → E.look σ o' = some (obB (B ++ [UInt8.ofNat (48 + d % 10)])) →
  Weak [] (((((Sl.empty.set 5 (.int .i64 ((i + 1 : Nat) : Int))).set 4 (.int .u32 ((d / 10 : Nat) : Int))).set 3 (bA o' (B ++ [UInt8.ofNat (48 + d % 10)]).length)).set 0 (nat (au (q : Int))))) (txS o' (B ++ [UInt8.ofNat (48 + d % 10)])) S σ := fun S σ o' h1 h2 => by
  refine kJ h1 (fun _ => h2) ?_
  repeat (first | exact aa | refine ah (by first | exact rI _ _ | simp) ?_)
 have cnd : (0 < (au (q : Int)).length) ∨ (¬ 0 < (au (q : Int)).length ∧ 0 < d) := by
  by_cases q0 : q = 0
  ·right; subst q0; simp [iP]; omega
  ·left; exact sR q0
 have gp : ∀ (o n : Nat), bA o (n + 1) = .ref o 0 (n + 1) := fun o n => az (by omega)
 have gp1 : ∀ (o : Nat), bA o 1 = .ref o 0 1 := fun o => az (by omega)
 generalize UInt8.ofNat (48 + d % 10) = b at *
 rcases cnd with g1 | ⟨g1, g2⟩ <;> by_cases b0 : B.length = 0
 ·have B0 := List.length_eq_zero_iff.1 b0
  subst B0
  simp [hi64, g1, th, aF, t1, t2, t3, t4, t5, t6, ac, List.filter_cons]
  rw [ak (by omega) (by omega)]
  refine ⟨(1, i + 1, d / 10, [] ++ [b]), ⟨by dsimp only; omega, by dsimp only; rw [hj2]; exact hd3, he3⟩, by dsimp only; omega, fin2 _ _ 1 ?_ (by simp [E.look, bc])⟩
  repeat (first | exact ae | refine aj (by simp [gp, gp1]) ?_)
 ·simp [hi64, g1, g9 b0, az b0, t1, t2, t3, t4, t5, ac, List.filter_cons]
  simp (disch := omega) [if_pos, t1, t2, t3, t4, t5, t6, ac, List.filter_cons]
  rw [ak (by omega) (by omega)]
  refine ⟨(o + 2, i + 1, d / 10, B ++ [b]), ⟨by dsimp only; omega, by dsimp only; rw [hj2]; exact hd3, he3⟩, by dsimp only; omega, fin2 _ _ (o + 2) ?_ (by simp [E.look, bc])⟩
  repeat (first | exact ae | refine aj (by simp [gp, gp1]) ?_)
 ·have B0 := List.length_eq_zero_iff.1 b0
  subst B0
  simp [hi64, g1, g2, th, aF, t1, t2, t3, t4, t5, t6, ac, List.filter_cons]
  rw [ak (by omega) (by omega)]
  refine ⟨(1, i + 1, d / 10, [] ++ [b]), ⟨by dsimp only; omega, by dsimp only; rw [hj2]; exact hd3, he3⟩, by dsimp only; omega, fin2 _ _ 1 ?_ (by simp [E.look, bc])⟩
  repeat (first | exact ae | refine aj (by simp [gp, gp1]) ?_)
 ·simp [hi64, g1, g2, g9 b0, az b0, t1, t2, t3, t4, t5, ac, List.filter_cons]
  simp (disch := omega) [if_pos, t1, t2, t3, t4, t5, t6, ac, List.filter_cons]
  rw [ak (by omega) (by omega)]
  refine ⟨(o + 2, i + 1, d / 10, B ++ [b]), ⟨by dsimp only; omega, by dsimp only; rw [hj2]; exact hd3, he3⟩, by dsimp only; omega, fin2 _ _ (o + 2) ?_ (by simp [E.look, bc])⟩
  repeat (first | exact ae | refine aj (by simp [gp, gp1]) ?_)
def jF (l : List Int) : List UInt8 := kX (val l).toNat
def ll (r : Raw) : List UInt8 := (if r.neg then 45 :: jF r.num else jF r.num) ++ (if val r.den = 1 then [] else 47 :: jF r.den)
theorem kv {l : List Int} (hd : Dig l) : (jF l).length ≤ 10 * l.length + 1 := by
 obtain ⟨N, hv, hT, _⟩ := oU hd
 unfold jF
 rw [hv]
 exact nn (by simpa using hT)
theorem nB {r : Raw} {K : Nat} (h : r.Ok K) : (ll r).length ≤ 20 * K + 4 := by
 have h1 := kv h.dn
 have h2 := kv h.dd
 have h3 := h.ln
 have h4 := h.ld
 unfold ll
 rw [List.length_append]
 split <;> split <;> simp <;> omega
theorem pr : ({ data := #[45] } : ByteArray) = bs [45] := rfl
theorem pt : ({ data := #[47] } : ByteArray) = bs [47] := rfl
set_option maxHeartbeats 4000000 in
theorem ratio_Text {x : Raw} {K : Nat} (hK : 1 ≤ K) (hk : K ≤ 2 ^ 24) (ok : x.Ok K) : CallD Tryz.prog F.ratio_Text [x.v] (· = .str (bs (ll (ap x.q)))) := by
 have f := Raw.fits ok hK
 have ro := cu f
 have ln := ro.ln
 have ld := ro.ld
 have mk := ratio_made (neg := x.neg) ok.dn ok.dd (by have := ok.ln; omega) (by have := ok.ld; omega)
 have eq : mkRat (sgn x.neg (val x.num)) (val x.den).toNat = x.q := rfl
 rw [eq] at mk
 refine av F.ratio_Text_ok ?_
 unfold F.ratio_Text_c
 simp [ac, List.filter_cons, dZ, Raw.c]
 refine ag mk (by simp) ?_
 simp [bH, dZ, Raw.c, ac, List.filter_cons]
 generalize ap x.q = r at *
 have l1 := kv ro.dn
 have l2 := kv ro.dd
 have t1 := nat_Text ro.dn (by omega)
 have t2 := nat_Text ro.dd (by omega)
 rw [show kX (val r.num).toNat = jF r.num from rfl] at t1
 rw [show kX (val r.den).toNat = jF r.den from rfl] at t2
 have sm := nat_Small ro.dd (by omega)
 obtain ⟨u, b, hs, hb⟩ : ∃ (u : Int) (b : Bool), cT (val r.den) = .tup [.int .u64 u, .bool b] ∧ ((val r.den = 1 ∧ b = true ∧ u = 1) ∨ (¬ val r.den = 1 ∧ (b = false ∨ (b = true ∧ ¬ u = 1)))) := by
  unfold cT
  by_cases g : val r.den < 18446744073709551616
  ·exact ⟨val r.den, true, by rw [if_pos g], by by_cases d1 : val r.den = 1 <;> simp [d1]⟩
  ·exact ⟨0, false, by rw [if_neg g], .inr ⟨by omega, .inl rfl⟩⟩
 rw [hs] at sm
 have z1 : 1 + (jF r.num).length ≤ 1099511627776 := by omega
 have z2 : (jF r.num).length + 1 ≤ 1099511627776 := by omega
 have z3 : (jF r.num).length + 1 + 1 ≤ 1099511627776 := by omega
 have z4 : (jF r.num).length + 1 + (jF r.den).length ≤ 1099511627776 := by omega
 have z5 : (jF r.num).length + 1 + 1 + (jF r.den).length ≤ 1099511627776 := by omega
 refine ag t1 (by simp) ?_
 unfold ll
 cases hn : r.neg <;> rcases hb with ⟨d1, rfl, rfl⟩ | ⟨d1, rfl | ⟨rfl, u1⟩⟩ <;> simp [hn, d1, pr, pt, dN, z1, z2, z3, z4, ac, List.filter_cons]
 ·refine ag sm (by simp) ?_
  simp [ac, List.filter_cons]
 ·refine ag sm (by simp) ?_
  simp [pr, pt, dN, z1, z2, z3, z4, ac, List.filter_cons]
  refine ag t2 (by simp) ?_
  simp [pr, pt, dN, z1, z2, z3, z4, ac, List.filter_cons]
 ·refine ag sm (by simp) ?_
  simp [u1, pr, pt, dN, z1, z2, z3, z4, ac, List.filter_cons]
  refine ag t2 (by simp) ?_
  simp [pr, pt, dN, z1, z2, z3, z4, ac, List.filter_cons]
 ·refine ag sm (by simp) ?_
  simp [ac, List.filter_cons]
 ·refine ag sm (by simp) ?_
  simp [pr, pt, dN, z1, z2, z3, z4, ac, List.filter_cons]
  refine ag t2 (by simp) ?_
  simp [pr, pt, dN, z1, z2, z3, z5, ac, List.filter_cons]
 ·refine ag sm (by simp) ?_
  simp [u1, pr, pt, dN, z1, z2, z3, z4, ac, List.filter_cons]
  refine ag t2 (by simp) ?_
  simp [pr, pt, dN, z1, z2, z3, z5, ac, List.filter_cons]
end Go.Proofs.YtmjgehbpcchjpaaGreatDoor
