import Derived.Test.YtmjgehbpcchjpaaGreatDoorGA
import Derived.Lib.ItoaNum
import Derived.Test.YtmjgehbpcchjpaaGreatDoorHI
import Derived.Test.YtmjgehbpcchjpaaGreatDoorGC
import Derived.Test.YtmjgehbpcchjpaaGreatDoorProg
import Derived.KernelRfl
import Derived.Test.YtmjgehbpcchjpaaGreatDoorGH
import Derived.Test.YtmjgehbpcchjpaaGreatDoorGJ
import Derived.Test.YtmjgehbpcchjpaaGreatDoorHK
namespace Go.Proofs.YtmjgehbpcchjpaaGreatDoor.F
open Go Go.Proofs Go.Proofs.YtmjgehbpcchjpaaGreatDoor.E Go.Proofs.YtmjgehbpcchjpaaGreatDoor.Q
abbrev slices_Reverse_Sbyte_byte : Nat := 163
def slices_Reverse_Sbyte_byte_c : MFn := ⟨28,(.seq (r [o 4 (.mv (.t 0)),o 5 (.lenS (.t 4)),o 6 (.bin .sub (.t 5) (i 1)),o 2 (.mv (i 0)),o 3 (.mv (.t 6))] [0,2,3]) (.block 0 (.loop (.seq (.seq (r [o 7 (.mv (.t 2)),o 8 (.mv (.t 3)),o 9 (.bin .lss (.t 7) (.t 8))] [0,2,3,9]) (.cond (.t 9) .skip (.exit 0))) (.seq (.block 1 (r [o 14 (.mv (.t 0)),o 15 (.mv (.t 2)),o 16 (.mv (.t 0)),o 17 (.mv (.t 3)),o 18 (.mv (.t 0)),o 19 (.mv (.t 3)),o 20 (.ixA 1 (.t 18) (.t 19)),o 21 (.ld none (.t 20)),o 22 (.mv (.t 0)),o 23 (.mv (.t 2)),o 24 (.ixA 1 (.t 22) (.t 23)),o 25 (.ld none (.t 24)),o 26 (.ixA 1 (.t 14) (.t 15)),z (.st 1 (.t 26) (.t 21)),o 27 (.ixA 1 (.t 16) (.t 17)),z (.st 1 (.t 27) (.t 25))] [0,2,3])) (r [o 10 (.mv (.t 2)),o 11 (.bin .add (.t 10) (i 1)),o 12 (.mv (.t 3)),o 13 (.bin .sub (.t 12) (i 1)),o 2 (.mv (.t 11)),o 3 (.mv (.t 13))] [0,2,3])))))),[]⟩
theorem slices_Reverse_Sbyte_byte_ok : cFn Tryz.prog (kps [[0,2,3],[0,2,3,9],[0,2,3],[0,2,3]]) [] 163 = some slices_Reverse_Sbyte_byte_c := by kernel_rfl
abbrev nat_Text : Nat := 125
def nat_Text_c : MFn := ⟨45,(.seq (r [o 2 (.mv (.c (.str ⟨#[]⟩)))] [0]) (.seq (r [o 6 (.mv (.t 0)),o 7 (.call 152 [(.t 6)]),o 0 (.mv (.t 7))] [0]) (.seq (.seq (r [o 8 (.mv (.t 0)),o 9 (.lenS (.t 8)),o 10 (.bin .eql (.t 9) (i 0))] [0,10]) (.cond (.t 10) (.seq (r [o 2 (.mv (.c (.str ⟨#[48]⟩)))] [2]) .ret) .skip)) (.seq (r [o 3 (.mv (.c .nils))] [0,3]) (.seq (.block 0 (.loop (.seq (.seq (r [o 11 (.mv (.t 0)),o 12 (.lenS (.t 11)),o 13 (.bin .gtr (.t 12) (i 0))] [0,3,13]) (.cond (.t 13) .skip (.exit 0))) (.block 1 (.seq (r [o 4 (.mv (.c (.int .u32 0)))] [0,3]) (.seq (r [o 15 (.mv (.t 0)),o 16 (.call 162 [(.t 15),(.c (.int .u32 1000000000))]),o 14 (.mv (.t 16)),o 17 (.ext (.t 14) 0),o 18 (.ext (.t 14) 1),o 0 (.mv (.t 17)),o 4 (.mv (.t 18))] [0,3,4]) (.seq (r [o 5 (.mv (i 0))] [0,3,4,5]) (.block 2 (.loop (.seq (.seq (r [o 19 (.mv (.t 5)),o 20 (.bin .lss (.t 19) (i 9)),o 21 (.mv (.t 20)),y 22 21 (.mv (.t 0)),y 23 21 (.lenS (.t 22)),y 24 21 (.bin .gtr (.t 23) (i 0)),y 25 21 (.mv (.t 24)),n 26 25 (.mv (.t 4)),n 27 25 (.bin .gtr (.t 26) (.c (.int .u32 0))),y 28 21 (.pick (.t 25) (.c (.bool true)) (.t 27)),o 29 (.pick (.t 21) (.t 28) (.c (.bool false)))] [0,3,4,5,29]) (.cond (.t 29) .skip (.exit 2))) (.seq (.block 3 (.seq (r [o 32 (.mv (.t 3)),o 33 (.mv (.t 4)),o 34 (.bin .rem (.t 33) (.c (.int .u32 10))),o 35 (.bin .add (.c (.int .u32 48)) (.t 34)),o 36 (.cvt .u8 (.t 35)),o 37 (.buildSl 1 1 [.int .u8 0] [(0,(.t 36))]),o 38 (.app 1 1 (.t 32) (.t 37)),o 3 (.mv (.t 38))] [0,3,4,5]) (r [o 39 (.mv (.t 4)),o 40 (.bin .quo (.t 39) (.c (.int .u32 10))),o 4 (.mv (.t 40))] [0,3,4,5]))) (r [o 30 (.mv (.t 5)),o 31 (.bin .add (.t 30) (i 1)),o 5 (.mv (.t 31))] [0,3,4,5])))))))))))) (.seq (r [o 41 (.mv (.t 3)),o 42 (.call 163 [(.t 41)])] [3]) (.seq (r [o 43 (.mv (.t 3)),o 44 (.strB (.t 43)),o 2 (.mv (.t 44))] [2]) .ret))))))),[.t 2]⟩
theorem nat_Text_ok : cFn Tryz.prog (kps [[0],[0],[0,10],[2],[0,3],[0,3,13],[0,3],[0,3,4],[0,3,4,5],[0,3,4,5,29],[0,3,4,5],[0,3,4,5],[0,3,4,5],[3],[2]]) [] 125 = some nat_Text_c := by kernel_rfl
abbrev ref01_Text : Nat := 176
def ref01_Text_c : MFn := ⟨67,(.seq (r [o 2 (.mv (.c (.str ⟨#[]⟩)))] [0]) (.seq (r [o 9 (.mv (.t 0)),o 10 (.call 170 [(.t 9)]),o 0 (.mv (.t 10))] [0]) (.seq (.seq (r [o 11 (.mv (.t 0)),o 12 (.lenS (.t 11)),o 13 (.bin .eql (.t 12) (i 0))] [0,13]) (.cond (.t 13) (.seq (r [o 2 (.mv (.c (.str ⟨#[48]⟩)))] [2]) .ret) .skip)) (.seq (r [o 3 (.mv (.c .nils))] [0,3]) (.seq (.block 0 (.loop (.seq (.seq (r [o 14 (.mv (.t 0)),o 15 (.lenS (.t 14)),o 16 (.bin .gtr (.t 15) (i 0))] [0,3,16]) (.cond (.t 16) .skip (.exit 0))) (.block 1 (.seq (r [o 18 (.mv (.t 0)),o 19 (.call 194 [(.t 18),(.c (.int .u64 1000000000))]),o 17 (.mv (.t 19)),o 20 (.ext (.t 17) 0),o 21 (.ext (.t 17) 1),o 4 (.mv (.t 20)),o 5 (.mv (.t 21))] [3,4,5]) (.seq (r [o 22 (.mv (.t 4)),o 0 (.mv (.t 22))] [0,3,5]) (.seq (r [o 6 (.mv (i 0))] [0,3,5,6]) (.block 2 (.loop (.seq (.seq (r [o 23 (.mv (.t 6)),o 24 (.bin .lss (.t 23) (i 9)),o 25 (.mv (.t 24)),y 26 25 (.mv (.t 5)),y 27 25 (.bin .gtr (.t 26) (.c (.int .u64 0))),y 28 25 (.mv (.t 27)),n 29 28 (.mv (.t 0)),n 30 28 (.lenS (.t 29)),n 31 28 (.bin .gtr (.t 30) (i 0)),y 32 25 (.pick (.t 28) (.c (.bool true)) (.t 31)),o 33 (.pick (.t 25) (.t 32) (.c (.bool false)))] [0,3,5,6,33]) (.cond (.t 33) .skip (.exit 2))) (.seq (.block 3 (.seq (r [o 36 (.mv (.t 3)),o 37 (.mv (.t 5)),o 38 (.bin .rem (.t 37) (.c (.int .u64 10))),o 39 (.bin .add (.c (.int .u64 48)) (.t 38)),o 40 (.cvt .u8 (.t 39)),o 41 (.buildSl 1 1 [.int .u8 0] [(0,(.t 40))]),o 42 (.app 1 1 (.t 36) (.t 41)),o 3 (.mv (.t 42))] [0,3,5,6]) (r [o 43 (.mv (.t 5)),o 44 (.bin .quo (.t 43) (.c (.int .u64 10))),o 5 (.mv (.t 44))] [0,3,5,6]))) (r [o 34 (.mv (.t 6)),o 35 (.bin .add (.t 34) (i 1)),o 6 (.mv (.t 35))] [0,3,5,6])))))))))))) (.seq (r [o 45 (.mv (.t 3)),o 46 (.lenS (.t 45)),o 47 (.mkSl 1 1 [.int .u8 0] (.t 46) (.t 46)),o 7 (.mv (.t 47))] [3,7]) (.seq (.seq (r [o 8 (.mv (i 0))] [3,7,8]) (.block 4 (.loop (.seq (.seq (r [o 48 (.mv (.t 8)),o 49 (.mv (.t 3)),o 50 (.lenS (.t 49)),o 51 (.bin .lss (.t 48) (.t 50))] [3,7,8,51]) (.cond (.t 51) .skip (.exit 4))) (.seq (.block 5 (r [o 54 (.mv (.t 7)),o 55 (.mv (.t 8)),o 56 (.mv (.t 3)),o 57 (.mv (.t 3)),o 58 (.lenS (.t 57)),o 59 (.bin .sub (.t 58) (i 1)),o 60 (.mv (.t 8)),o 61 (.bin .sub (.t 59) (.t 60)),o 62 (.ixA 1 (.t 56) (.t 61)),o 63 (.ld none (.t 62)),o 64 (.ixA 1 (.t 54) (.t 55)),z (.st 1 (.t 64) (.t 63))] [3,7,8])) (r [o 52 (.mv (.t 8)),o 53 (.bin .add (.t 52) (i 1)),o 8 (.mv (.t 53))] [3,7,8])))))) (.seq (r [o 65 (.mv (.t 7)),o 66 (.strB (.t 65)),o 2 (.mv (.t 66))] [2]) .ret)))))))),[.t 2]⟩
theorem ref01_Text_ok : cFn Tryz.prog (kps [[0],[0],[0,13],[2],[0,3],[0,3,16],[3,4,5],[0,3,5],[0,3,5,6],[0,3,5,6,33],[0,3,5,6],[0,3,5,6],[0,3,5,6],[3,7],[3,7,8],[3,7,8,51],[3,7,8],[3,7,8],[2]]) [] 176 = some ref01_Text_c := by kernel_rfl
abbrev ratio_Text : Nat := 76
def ratio_Text_c : MFn := ⟨38,(.seq (r [o 1 (.box (.t 0)),o 2 (.mv (.c (.str ⟨#[]⟩)))] [1]) (.seq (r [o 6 (.fA 0 (.t 1)),o 7 (.ld none (.t 6)),o 8 (.fA 1 (.t 1)),o 9 (.ld none (.t 8)),o 10 (.fA 2 (.t 1)),o 11 (.ld none (.t 10)),o 12 (.call 106 [(.t 7),(.t 9),(.t 11)]),z (.st 3 (.t 1) (.t 12))] [1]) (.seq (r [o 13 (.fA 1 (.t 1)),o 14 (.ld none (.t 13)),o 15 (.call 125 [(.t 14)]),o 3 (.mv (.t 15))] [1,3]) (.seq (.seq (r [o 16 (.fA 0 (.t 1)),o 17 (.ld none (.t 16))] [1,3,17]) (.cond (.t 17) (r [o 18 (.mv (.t 3)),o 19 (.binT .add (.c (.str ⟨#[45]⟩)) (.t 18)),o 3 (.mv (.t 19))] [1,3]) .skip)) (.seq (.seq (r [o 21 (.fA 2 (.t 1)),o 22 (.ld none (.t 21)),o 23 (.call 126 [(.t 22)]),o 20 (.mv (.t 23)),o 24 (.ext (.t 20) 0),o 25 (.ext (.t 20) 1),o 4 (.mv (.t 24)),o 5 (.mv (.t 25))] [1,3,4,5]) (.seq (r [o 26 (.mv (.t 5)),o 27 (.mv (.t 26)),y 28 27 (.mv (.t 4)),y 29 27 (.bin .eql (.t 28) (.c (.int .u64 1))),o 30 (.pick (.t 27) (.t 29) (.c (.bool false)))] [1,3,30]) (.cond (.t 30) (.seq (r [o 31 (.mv (.t 3)),o 2 (.mv (.t 31))] [2]) .ret) .skip))) (.seq (r [o 32 (.mv (.t 3)),o 33 (.binT .add (.t 32) (.c (.str ⟨#[47]⟩))),o 34 (.fA 2 (.t 1)),o 35 (.ld none (.t 34)),o 36 (.call 125 [(.t 35)]),o 37 (.binT .add (.t 33) (.t 36)),o 2 (.mv (.t 37))] [2]) .ret)))))),[.t 2]⟩
theorem ratio_Text_ok : cFn Tryz.prog (kps [[1],[1],[1,3],[1,3,17],[1,3],[1,3,4,5],[1,3,30],[2],[2]]) [] 76 = some ratio_Text_c := by kernel_rfl
abbrev ref02_Text : Nat := 143
def ref02_Text_c : MFn := ⟨25,(.seq (r [o 1 (.box (.t 0)),o 2 (.mv (.c (.str ⟨#[]⟩)))] [1]) (.seq (r [o 4 (.ld (some 3) (.t 1)),o 5 (.call 133 [(.t 4)]),z (.st 3 (.t 1) (.t 5))] [1]) (.seq (r [o 6 (.fA 1 (.t 1)),o 7 (.ld none (.t 6)),o 8 (.call 176 [(.t 7)]),o 3 (.mv (.t 8))] [1,3]) (.seq (.seq (r [o 9 (.fA 0 (.t 1)),o 10 (.ld none (.t 9))] [1,3,10]) (.cond (.t 10) (r [o 11 (.mv (.t 3)),o 12 (.binT .add (.c (.str ⟨#[45]⟩)) (.t 11)),o 3 (.mv (.t 12))] [1,3]) .skip)) (.seq (.seq (r [o 13 (.fA 2 (.t 1)),o 14 (.ld none (.t 13)),o 15 (.callF 149 [(.c (.int .u64 1))]),o 16 (.callF 136 [(.t 14),(.t 15)]),o 17 (.bin .neq (.t 16) (i 0))] [1,3,17]) (.cond (.t 17) (r [o 18 (.mv (.t 3)),o 19 (.binT .add (.t 18) (.c (.str ⟨#[47]⟩))),o 20 (.fA 2 (.t 1)),o 21 (.ld none (.t 20)),o 22 (.call 176 [(.t 21)]),o 23 (.binT .add (.t 19) (.t 22)),o 3 (.mv (.t 23))] [3]) .skip)) (.seq (r [o 24 (.mv (.t 3)),o 2 (.mv (.t 24))] [2]) .ret)))))),[.t 2]⟩
theorem ref02_Text_ok : cFn Tryz.prog (kps [[1],[1],[1,3],[1,3,10],[1,3],[1,3,17],[3],[2]]) [] 143 = some ref02_Text_c := by kernel_rfl
end Go.Proofs.YtmjgehbpcchjpaaGreatDoor.F

namespace Go.Proofs.YtmjgehbpcchjpaaGreatDoor
open Go Go.Proofs Go.Proofs.YtmjgehbpcchjpaaGreatDoor.E
set_option linter.unusedSimpArgs false
set_option linter.unusedVariables false
def bs (l : List UInt8) : ByteArray := ⟨l.toArray⟩
@[simp] theorem bs_size (l : List UInt8) : (bs l).size = l.length := by simp [bs, ByteArray.size]
@[simp] theorem bs_data (l : List UInt8) : (bs l).data.toList = l := by simp [bs]
theorem bs_app (a b : List UInt8) : bs a ++ bs b = bs (a ++ b) := by
 apply ByteArray.ext
 simp [bs]
theorem bs_push (l : List UInt8) (b : UInt8) : (bs l).push b = bs (l ++ [b]) := by
 apply ByteArray.ext
 simp [bs, ByteArray.push]
def byC (b : UInt8) : List V := [.int .u8 b.toNat]
theorem ofNat_toNat (b : UInt8) : UInt8.ofNat ((b.toNat : Int)).toNat = b := by simp
theorem bytesL_by (l : List UInt8) : bytesL (l.map byC) = some (l.map fun b => (b.toNat : Int)) := by
 induction l with
 | nil => rfl
 | cons b l ih => simp only [List.map_cons, byC] at ih ⊢; simp only [bytesL, ih, Option.map_some]
theorem strOf_go (l : List UInt8) (a : List UInt8) : (l.map fun b => (b.toNat : Int)).foldl (fun r n => r.push (UInt8.ofNat n.toNat)) (bs a) = bs (a ++ l) := by
 induction l generalizing a with
 | nil => simp
 | cons b l ih =>
   simp only [List.map_cons, List.foldl_cons]
   rw [ofNat_toNat, bs_push, ih]
   simp
theorem strOf_by (l : List UInt8) : strOf (l.map fun b => (b.toNat : Int)) = bs l := by
 have := strOf_go l []
 rw [List.nil_append] at this
 exact this
def decRev (n : Nat) : List UInt8 := if h : n = 0 then [] else UInt8.ofNat (48 + n % 10) :: decRev (n / 10)
termination_by n
decreasing_by omega
theorem decRev_zero : decRev 0 = [] := by rw [decRev]; simp
theorem decRev_pos {n : Nat} (h : n ≠ 0) : decRev n = UInt8.ofNat (48 + n % 10) :: decRev (n / 10) := by rw [decRev]; simp [h]
theorem decRev_rev : ∀ {n : Nat}, n ≠ 0 → (decRev n).reverse = Lib.decDigits n := by
 intro n
 induction n using Nat.strongRecOn with
 | _ n ih =>
   intro h
   rw [decRev_pos h, Lib.decDigits]
   by_cases h10 : n < 10
   ·have e0 : n / 10 = 0 := by omega
    have e1 : n % 10 = n := by omega
    simp [h10, e0, e1, decRev_zero]
   ·rw [dif_neg h10, List.reverse_cons, ih (n / 10) (by omega) (by omega)]
theorem decRev_len {k : Nat} : ∀ {n : Nat}, n < 10 ^ k → (decRev n).length ≤ k := by
 induction k with
 | zero => intro n h; have : n = 0 := by omega
           subst this; simp [decRev_zero]
 | succ k ih =>
   intro n h
   by_cases h0 : n = 0
   ·subst h0; simp [decRev_zero]
   ·rw [decRev_pos h0, List.length_cons]
    have := ih (n := n / 10) (by rw [Nat.pow_succ] at h; omega)
    omega
def natL (n : Nat) : List UInt8 := Lib.decDigits n
theorem natL_zero : natL 0 = [48] := by unfold natL; rw [Lib.decDigits]; simp
theorem natL_rev {n : Nat} (h : n ≠ 0) : natL n = (decRev n).reverse := (decRev_rev h).symm
theorem natL_len {k n : Nat} (h : n < 10 ^ k) : (natL n).length ≤ k + 1 := by
 by_cases h0 : n = 0
 ·subst h0; simp [natL_zero]
 ·rw [natL_rev h0, List.length_reverse]; have := decRev_len h; omega
abbrev byR (l : List UInt8) : List (List V) := l.map byC
abbrev obB (l : List UInt8) : Ob := ⟨.own, 1, byR l⟩
theorem plain_B (l : List UInt8) : Plain (obB l).cells := by
 intro r hr y hy p
 obtain ⟨x, _, rfl⟩ := List.mem_map.1 hr
 simp [byC] at hy; subst hy; simp [V.within]
def revK (l : List UInt8) (k : Nat) : List UInt8 := (List.range l.length).map fun t => if t < k ∨ l.length ≤ t + k then l.getD (l.length - 1 - t) 0 else l.getD t 0
theorem revK_len (l : List UInt8) (k : Nat) : (revK l k).length = l.length := by simp [revK]
theorem revK_get {l : List UInt8} {k t : Nat} (h : t < (revK l k).length) : (revK l k)[t] = if t < k ∨ l.length ≤ t + k then l.getD (l.length - 1 - t) 0 else l.getD t 0 := by simp [revK]
theorem revK_zero (l : List UInt8) : revK l 0 = l := by
 refine List.ext_getElem (revK_len l 0) fun t h1 h2 => ?_
 rw [revK_get, if_neg (by omega)]
 simp [List.getD, h2]
theorem revK_step {l : List UInt8} {k j : Nat} (hj : k + j + 1 = l.length) (h : k < j) (a1 : k < (revK l k).length) (a2 : j < (revK l k).length) :
 ((revK l k).set k (revK l k)[j]).set j (revK l k)[k] = revK l (k + 1) := by
 refine List.ext_getElem (by simp [revK_len]) fun t h1 h2 => ?_
 have ht : t < l.length := by rw [revK_len] at h2; exact h2
 have g1 := revK_get a1
 have g2 := revK_get a2
 have g3 := revK_get h2
 have g4 := revK_get (l := l) (k := k) (t := t) (by rw [revK_len]; exact ht)
 rw [List.getElem_set, List.getElem_set, g3]
 by_cases e1 : j = t
 ·rw [if_pos e1, g1, if_neg (by omega), if_pos (by omega)]
  congr 1; omega
 ·rw [if_neg e1]
  by_cases e2 : k = t
  ·rw [if_pos e2, g2, if_neg (by omega), if_pos (by omega)]
   congr 1; omega
  ·rw [if_neg e2, g4]
   by_cases e3 : t < k ∨ l.length ≤ t + k
   ·rw [if_pos e3, if_pos (by omega)]
   ·rw [if_neg e3, if_neg (by omega)]
theorem revK_end {l : List UInt8} {k : Nat} (h : l.length ≤ k + k + 1) : revK l k = l.reverse := by
 refine List.ext_getElem (by simp [revK_len]) fun t h1 h2 => ?_
 have ht : t < l.length := by rw [revK_len] at h1; exact h1
 rw [revK_get, List.getElem_reverse]
 by_cases e : t < k ∨ l.length ≤ t + k
 ·rw [if_pos e]; simp [List.getD, show l.length - 1 - t < l.length by omega]
 ·rw [if_neg e]
  have : t = l.length - 1 - t := by omega
  simp [List.getD, ht]
  congr 1
set_option maxHeartbeats 4000000 in
theorem slices_Reverse {σ : Sto} {o : Nat} {l : List UInt8} (hl : l.length ≤ 1000000000) (h0 : 0 < l.length) (ho : E.look σ o = some (obB l)) (hs : Shut σ) :
 CallX Tryz.prog F.slices_Reverse_Sbyte_byte [.ref o 0 l.length] σ (fun v s => v = .tup [] ∧ s = setOb σ o (obB l.reverse)) := by
 refine callX_by F.slices_Reverse_Sbyte_byte_ok ?_
 unfold F.slices_Reverse_Sbyte_byte_c
 have hoK : (E.look σ o).isSome = true := by rw [ho]; rfl
 simp
 rw [wrap64 (by omega) (by omega)]
 obtain ⟨n, hn⟩ : ∃ n, l.length = n + 1 := ⟨l.length - 1, by omega⟩
 refine wm_loop (fun g : Nat × Nat => (((Sl.empty.set 3 (.int .i64 g.2)).set 2 (.int .i64 g.1)).set 0 (.ref o 0 l.length), setOb σ o (obB (revK l g.1))))
  (fun g => g.1 + g.2 + 1 = l.length ∧ g.1 ≤ g.2 + 1) (fun g => g.2) (0, n) (by dsimp only; omega) ?_ ?_
 ·refine weak_gen ?_ ?_ (keep_set keys_look) ?_ (shut_set hs (plain_B _))
  ·repeat (first | exact sub_empty | refine sub_set (by simp [hn]) ?_)
  ·intro p x
   rw [look_setOb]
   split
   ·rename_i e; rw [e, ho, revK_zero]; exact id
   ·exact id
  ·repeat (first | exact sin_empty | refine sin_set (by simp [V.within]) ?_)
 rintro ⟨k, j⟩ ⟨hj, hk⟩
 dsimp only at hj hk
 by_cases c : k < j
 ·have a1 : k < (revK l k).length := by rw [revK_len]; omega
  have a2 : j < (revK l k).length := by rw [revK_len]; omega
  have hk1 : k < l.length := by omega
  have hk2 : j < l.length := by omega
  have stp := revK_step hj c a1 a2
  have e3 : ((List.map byC (revK l k)).set k [.int .u8 (revK l k)[j].toNat]).set j [.int .u8 (revK l k)[k].toNat] = List.map byC (revK l (k + 1)) := by rw [← stp, List.map_set, List.map_set]; rfl
  have bg : ∀ b : UInt8, byC b = [.int .u8 b.toNat] := fun _ => rfl
  have e4 : ∀ h : j < ((List.map byC (revK l k)).set k [.int .u8 (revK l k)[j].toNat]).length, ((List.map byC (revK l k)).set k [.int .u8 (revK l k)[j].toNat])[j]'h = [.int .u8 (revK l k)[j].toNat] := fun h => by
   rw [List.getElem_set_ne (by omega)]; simp [bg]
  simp [c, hk1, hk2, a1, a2, bg, revK_len, hoK, setOb2, e4]
  rw [e3, wrap64 (by omega) (by omega), wrap64 (by omega) (by omega)]
  refine ⟨(k + 1, j - 1), ⟨by dsimp only; omega, by dsimp only; omega⟩, by dsimp only; omega, ?_⟩
  have ej : ((j - 1 : Nat) : Int) = (j : Int) - 1 := by omega
  refine weak_gen ?_ ?_ (keep_set keys_look) ?_ (shut_set hs (plain_B _))
  ·repeat (first | exact sub_empty | refine sub_set (by simp [ej]) ?_)
  ·intro p y
   simp only [look_setOb]
   split <;> exact id
  ·repeat (first | exact sin_empty | refine sin_set (by simp [V.within]) ?_)
 ·have hin := revK_end (l := l) (k := k) (by omega)
  simp [c]
  exact doneX_gen (r := .tup []) (l := []) (by simp) (by simp) rfl (Has.refl _) (keep_set keys_look) (shut_set hs (plain_B _)) (by simp) ⟨rfl, by rw [hin]⟩
theorem dec_step {d q j : Nat} (h : d + 10 ^ (j + 1) * q ≠ 0) : decRev (d + 10 ^ (j + 1) * q) = UInt8.ofNat (48 + d % 10) :: decRev (d / 10 + 10 ^ j * q) := by
 have e : d + 10 ^ (j + 1) * q = d + 10 * (10 ^ j * q) := by rw [Nat.pow_succ, Nat.mul_comm (10 ^ j) 10, Nat.mul_assoc]
 rw [decRev_pos h, e]
 have e1 : (d + 10 * (10 ^ j * q)) % 10 = d % 10 := by omega
 have e2 : (d + 10 * (10 ^ j * q)) / 10 = d / 10 + 10 ^ j * q := by omega
 rw [e1, e2]
theorem byC_digit {d : Nat} : byC (UInt8.ofNat (48 + d % 10)) = [.int .u8 (48 + (d : Int) % 10)] := by
 have : (UInt8.ofNat (48 + d % 10)).toNat = 48 + d % 10 := by simp; omega
 simp only [byC, this]
 norm_cast
abbrev txS (o : Nat) (B : List UInt8) : Sto := grownS o 1 B.length (byR B)
theorem txS_within (o : Nat) (B : List UInt8) : ∀ p ∈ txS o B, ∀ r ∈ p.2.cells, ∀ y ∈ r, ∀ f : Nat → Bool, y.within f = true := by
 intro p hp r hr y hy f
 by_cases h0 : B.length = 0
 ·rw [txS, h0, grownS_zero] at hp; simp at hp
 ·rw [txS, grownS_pos h0] at hp
  simp at hp; subst hp
  exact plain_B B r hr y hy f
theorem txS_nil (o : Nat) : txS o [] = [] := rfl
theorem txS_pos {o : Nat} {B : List UInt8} (h : ¬ B.length = 0) : txS o B = [(o, obB B)] := grownS_pos h
theorem tx_weak {S : Sl} {σ : Sto} {S1 : Sl} {o : Nat} {B : List UInt8} (h1 : Sub S1 S) (h2 : B ≠ [] → E.look σ o = some (obB B)) (h3 : SIn (fun q => ((txS o B).map (·.1)).contains q) S1) : Weak [] S1 (txS o B) S σ := by
 refine weak_obs h1 (fun p hp => ?_) h3 (fun p hp r hr y hy => txS_within o B p hp r hr y hy _)
 by_cases b0 : B.length = 0
 ·rw [txS, b0, grownS_zero] at hp; simp at hp
 ·rw [txS_pos b0] at hp
  simp at hp; subst hp
  exact h2 (fun e => b0 (by rw [e]; rfl))
theorem tx_in (o : Nat) (B : List UInt8) : (grown o B.length).within (fun q => ((txS o B).map (·.1)).contains q) = true := by
 by_cases b0 : B.length = 0
 ·rw [b0, grown_zero]; simp
 ·rw [grown_pos b0, txS_pos b0]; simp
theorem tx_shut {o : Nat} {B : List UInt8} : Shut [(o, obB B)] := shut_of (fun p hp r hr y hy => by simp at hp; subst hp; exact plain_B B r hr y hy _)
theorem tx_look {o : Nat} {B : List UInt8} (h : B ≠ []) : E.look (txS o B) o = some (obB B) := by
 rw [txS_pos (fun e => h (List.length_eq_zero_iff.1 e))]; simp [E.look]
@[simp] theorem wp_strB {P : Program} {S : Sl} {σ : Sto} {d : Option Nat} {rest : List MOper} {Q : Sl → Sto → Prop} {x} : WpOps P (⟨d, .strB x, none⟩ :: rest) S σ Q = Opt (evOp S σ (.strB x)) (Nxt P rest d S Q) := wp_opt rfl
theorem digs_ne (n : Nat) : digs (n : Int) = [] ↔ n = 0 := by rw [digs_nil_iff]; omega
theorem digs_lp {n : Nat} (h : ¬ n = 0) : 0 < (digs (n : Int)).length := List.length_pos_iff.2 fun e => h ((digs_ne n).1 e)
theorem natOf_val {l : List Int} (hd : Dig l) : ∃ N : Nat, val l = (N : Int) ∧ N < 10 ^ (10 * l.length) ∧ ∀ n ≤ N, (digs (n : Int)).length ≤ l.length := by
 have h1 := val_lt hd
 obtain ⟨N, hN⟩ : ∃ N : Nat, val l = (N : Int) := ⟨(val l).toNat, by have := val_nonneg hd; omega⟩
 rw [hN] at h1
 refine ⟨N, hN, ?_, fun n hn => digs_length_le (by omega)⟩
 have e : ((4294967296 ^ l.length : Nat) : Int) = (4294967296 : Int) ^ l.length := by rw [Int.natCast_pow]; rfl
 have h2 : N < 4294967296 ^ l.length := by omega
 rw [Nat.pow_mul]
 exact Nat.lt_of_lt_of_le h2 (Nat.pow_le_pow_left (by omega) _)
set_option maxHeartbeats 8000000 in
theorem nat_Text {l : List Int} (hd : Dig l) (hl : l.length ≤ 2 ^ 26) : CallD Tryz.prog F.nat_Text [nat l] (· = .str (bs (natL (val l).toNat))) := by
 refine callD_by F.nat_Text_ok ?_
 unfold F.nat_Text_c
 simp
 refine callK_of (nat_trim hd (by omega)) (by simp) ?_
 obtain ⟨N, hv, hT, len⟩ := natOf_val hd
 have eN : (val l).toNat = N := by omega
 rw [eN, hv]
 by_cases h0 : N = 0
 ·subst h0
  simp [natL_zero, bs]
 simp [digs_ne, h0]
 refine wm_loop (fun g : Nat × Nat × List UInt8 => ((Sl.empty.set 3 (grown g.1 g.2.2.length)).set 0 (nat (digs (g.2.1 : Int))), txS g.1 g.2.2)) (fun g => g.2.2 ++ decRev g.2.1 = decRev N ∧ g.2.1 ≤ N) (fun g => g.2.1) (0, N, []) (by simp) ?_ ?_
 ·refine tx_weak (o := 0) (B := []) ?_ (fun h => absurd rfl h) ?_
  ·repeat (first | exact sub_empty | refine sub_set (by simp [grown_zero]) ?_)
  ·repeat (first | exact sin_empty | refine sin_set (by first | exact tx_in _ _ | simp) ?_)
 rintro ⟨o, n, B⟩ ⟨he, hn⟩
 dsimp only at he hn
 by_cases c : n = 0
 ·subst c
  rw [decRev_zero, List.append_nil] at he
  have b0 : 0 < B.length := List.length_pos_iff.2 fun h => by
   rw [h] at he; rw [decRev_pos h0] at he; cases he
  have b1 : ¬ B.length = 0 := by omega
  have bl : B.length ≤ 1000000000 := by
   rw [he]
   exact Nat.le_trans (decRev_len hT) (by omega)
  simp [digs_zero, grown_pos b1, txS_pos b1]
  refine callK_X (slices_Reverse bl b0 (by simp [E.look]) tx_shut) ?_
  rintro r s ⟨rfl, rfl⟩
  have rl : B.reverse.length = B.length := by simp
  have tk : List.take B.length (byR B.reverse) = byR B.reverse := List.take_of_length_le (by simp)
  simp [setOb, List.filter_cons, -List.map_reverse, rl, tk, bytesL_by, strOf_by]
  rw [natL_rev h0, ← he]
 have key := nat_short (a := digs (n : Int)) (d := 1000000000) (digs_dig _) (by have := len n hn; omega) (by omega) (by omega)
 rw [val_digs (by omega)] at key
 obtain ⟨q, hq⟩ : ∃ q, n / 1000000000 = q := ⟨_, rfl⟩
 obtain ⟨d, hd'⟩ : ∃ d, n % 1000000000 = d := ⟨_, rfl⟩
 have e1 : (n : Int) / 1000000000 = (q : Int) := by omega
 have e2 : (n : Int) % 1000000000 = (d : Int) := by omega
 rw [e1, e2] at key
 simp [digs_ne, c, digs_lp c]
 refine callK_of key (by simp) ?_
 simp
 refine wm_loop (fun g : Nat × Nat × Nat × List UInt8 => ((((Sl.empty.set 5 (.int .i64 g.2.1)).set 4 (.int .u32 g.2.2.1)).set 3 (grown g.1 g.2.2.2.length)).set 0 (nat (digs (q : Int))), txS g.1 g.2.2.2))
  (fun g => g.2.1 ≤ 9 ∧ g.2.2.1 < 10 ^ (9 - g.2.1) ∧ g.2.2.2 ++ decRev (g.2.2.1 + 10 ^ (9 - g.2.1) * q) = decRev N) (fun g => 9 - g.2.1) (o, 0, d, B) ?_ ?_ ?_
 ·refine ⟨by dsimp only; omega, by dsimp only; omega, ?_⟩
  dsimp only
  rw [← he]
  congr 2; omega
 ·refine tx_weak (o := o) (B := B) ?_ (fun h => ?_) ?_
  ·repeat (first | exact sub_empty | refine sub_set (by simp) ?_)
  ·rw [txS_pos (fun e => h (List.length_eq_zero_iff.1 e))]; simp [E.look]
  ·repeat (first | exact sin_empty | refine sin_set (by first | exact tx_in _ _ | simp) ?_)
 rintro ⟨o, i, d, B⟩ ⟨hi, hd2, he2⟩
 dsimp only at hi hd2 he2
 have fin : d + 10 ^ (9 - i) * q = q → B ++ decRev q = decRev N := fun e => by rw [e] at he2; exact he2
 have qn : q < n := by omega
 by_cases c9 : i < 9
 case neg =>
  have : i = 9 := by omega
  subst this
  have d0 : d = 0 := by simp at hd2; exact hd2
  simp
  refine ⟨(o, q, B), ⟨fin (by simp [d0]), by dsimp only; omega⟩, by dsimp only; omega, tx_weak (o := o) (B := B) ?_ tx_look ?_⟩
  ·repeat (first | exact sub_empty | refine sub_set (by simp) ?_)
  ·repeat (first | exact sin_empty | refine sin_set (by first | exact tx_in _ _ | simp) ?_)
 have hi64 : (i : Int) < 9 := by omega
 obtain ⟨j, hj⟩ : ∃ j, 9 - i = j + 1 := ⟨8 - i, by omega⟩
 have hj2 : 9 - (i + 1) = j := by omega
 by_cases z : q = 0 ∧ d = 0
 ·obtain ⟨rfl, rfl⟩ := z
  simp [hi64, digs_zero]
  refine ⟨(o, 0, B), ⟨fin (by simp), by dsimp only; omega⟩, by dsimp only; omega, tx_weak (o := o) (B := B) ?_ tx_look ?_⟩
  ·repeat (first | exact sub_empty | refine sub_set (by simp [digs_zero]) ?_)
  ·repeat (first | exact sin_empty | refine sin_set (by first | exact tx_in _ _ | simp) ?_)
 have mz : d + 10 ^ (j + 1) * q ≠ 0 := by
  intro e
  have : 0 < 10 ^ (j + 1) := Nat.pow_pos (by omega)
  rcases Nat.mul_eq_zero.1 (show 10 ^ (j + 1) * q = 0 by omega) with h | h
  ·omega
  ·exact z ⟨h, by omega⟩
 rw [hj] at hd2 he2
 rw [dec_step mz] at he2
 have d32 : d < 4294967296 := Nat.lt_of_lt_of_le hd2 (Nat.le_trans (Nat.pow_le_pow_right (by omega) (show j + 1 ≤ 9 by omega)) (by omega))
 have hd3 : d / 10 < 10 ^ j := by rw [Nat.pow_succ] at hd2; omega
 have t1 : ((d : Int)).tmod 10 = (d : Int) % 10 := Int.tmod_eq_emod_of_nonneg (by omega)
 have t2 : ((d : Int)).tdiv 10 = (d : Int) / 10 := Int.tdiv_eq_ediv_of_nonneg (by omega)
 have t3 : IntKind.u32.wrap ((d : Int) / 10) = (d : Int) / 10 := wrapU32 (by omega) (by omega)
 have t4 : IntKind.u32.wrap (48 + (d : Int) % 10) = 48 + (d : Int) % 10 := wrapU32 (by omega) (by omega)
 have t6 : ((d : Int) / 10) % 4294967296 = (d : Int) / 10 := by omega
 have t5 : IntKind.u8.wrap (48 + (d : Int) % 10) = 48 + (d : Int) % 10 := wrapU8 (by omega) (by omega)
 have bc := byC_digit (d := d)
 have he3 : (B ++ [UInt8.ofNat (48 + d % 10)]) ++ decRev (d / 10 + 10 ^ (9 - (i + 1)) * q) = decRev N := by rw [hj2, List.append_assoc]; exact he2
 have bl : B.length ≤ 1000000000 := by
  have h1 : (decRev N).length ≤ 10 * l.length := decRev_len hT
  rw [← he3] at h1
  simp at h1; omega
 have fin2 : ∀ (S : Sl) (σ : Sto) (o' : Nat), E.Sub (((((Sl.empty.set 5 (.int .i64 ((i + 1 : Nat) : Int))).set 4 (.int .u32 ((d / 10 : Nat) : Int))).set 3 (grown o' (B ++ [UInt8.ofNat (48 + d % 10)]).length)).set 0 (nat (digs (q : Int))))) S → E.look σ o' = some (obB (B ++ [UInt8.ofNat (48 + d % 10)])) →
  Weak [] (((((Sl.empty.set 5 (.int .i64 ((i + 1 : Nat) : Int))).set 4 (.int .u32 ((d / 10 : Nat) : Int))).set 3 (grown o' (B ++ [UInt8.ofNat (48 + d % 10)]).length)).set 0 (nat (digs (q : Int))))) (txS o' (B ++ [UInt8.ofNat (48 + d % 10)])) S σ := fun S σ o' h1 h2 => by
  refine tx_weak h1 (fun _ => h2) ?_
  repeat (first | exact sin_empty | refine sin_set (by first | exact tx_in _ _ | simp) ?_)
 have cnd : (0 < (digs (q : Int)).length) ∨ (¬ 0 < (digs (q : Int)).length ∧ 0 < d) := by
  by_cases q0 : q = 0
  ·right; subst q0; simp [digs_zero]; omega
  ·left; exact digs_lp q0
 have gp : ∀ (o n : Nat), grown o (n + 1) = .ref o 0 (n + 1) := fun o n => grown_pos (by omega)
 have gp1 : ∀ (o : Nat), grown o 1 = .ref o 0 1 := fun o => grown_pos (by omega)
 generalize UInt8.ofNat (48 + d % 10) = b at *
 rcases cnd with g1 | ⟨g1, g2⟩ <;> by_cases b0 : B.length = 0
 ·have B0 := List.length_eq_zero_iff.1 b0
  subst B0
  simp [hi64, g1, txS_nil, grown_zero, t1, t2, t3, t4, t5, t6, setOb, List.filter_cons]
  rw [wrap64 (by omega) (by omega)]
  refine ⟨(1, i + 1, d / 10, [] ++ [b]), ⟨by dsimp only; omega, by dsimp only; rw [hj2]; exact hd3, he3⟩, by dsimp only; omega, fin2 _ _ 1 ?_ (by simp [E.look, bc])⟩
  repeat (first | exact sub_empty | refine sub_set (by simp [gp, gp1]) ?_)
 ·simp [hi64, g1, txS_pos b0, grown_pos b0, t1, t2, t3, t4, t5, setOb, List.filter_cons]
  simp (disch := omega) [if_pos, t1, t2, t3, t4, t5, t6, setOb, List.filter_cons]
  rw [wrap64 (by omega) (by omega)]
  refine ⟨(o + 2, i + 1, d / 10, B ++ [b]), ⟨by dsimp only; omega, by dsimp only; rw [hj2]; exact hd3, he3⟩, by dsimp only; omega, fin2 _ _ (o + 2) ?_ (by simp [E.look, bc])⟩
  repeat (first | exact sub_empty | refine sub_set (by simp [gp, gp1]) ?_)
 ·have B0 := List.length_eq_zero_iff.1 b0
  subst B0
  simp [hi64, g1, g2, txS_nil, grown_zero, t1, t2, t3, t4, t5, t6, setOb, List.filter_cons]
  rw [wrap64 (by omega) (by omega)]
  refine ⟨(1, i + 1, d / 10, [] ++ [b]), ⟨by dsimp only; omega, by dsimp only; rw [hj2]; exact hd3, he3⟩, by dsimp only; omega, fin2 _ _ 1 ?_ (by simp [E.look, bc])⟩
  repeat (first | exact sub_empty | refine sub_set (by simp [gp, gp1]) ?_)
 ·simp [hi64, g1, g2, txS_pos b0, grown_pos b0, t1, t2, t3, t4, t5, setOb, List.filter_cons]
  simp (disch := omega) [if_pos, t1, t2, t3, t4, t5, t6, setOb, List.filter_cons]
  rw [wrap64 (by omega) (by omega)]
  refine ⟨(o + 2, i + 1, d / 10, B ++ [b]), ⟨by dsimp only; omega, by dsimp only; rw [hj2]; exact hd3, he3⟩, by dsimp only; omega, fin2 _ _ (o + 2) ?_ (by simp [E.look, bc])⟩
  repeat (first | exact sub_empty | refine sub_set (by simp [gp, gp1]) ?_)
def cpK (l : List UInt8) (k : Nat) : List UInt8 := l.take k ++ List.replicate (l.length - k) 0
theorem cpK_zero (l : List UInt8) : cpK l 0 = List.replicate l.length 0 := by simp [cpK]
theorem cpK_all {l : List UInt8} {k : Nat} (h : l.length ≤ k) : cpK l k = l := by simp [cpK, List.take_of_length_le h, show l.length - k = 0 by omega]
theorem cpK_step {l : List UInt8} {k : Nat} (h : k < l.length) : (cpK l k).set k l[k] = cpK l (k + 1) := by
 unfold cpK
 rw [List.set_append_right _ _ (by simp; omega)]
 have e : k - (l.take k).length = 0 := by simp; omega
 have e2 : l.length - k = (l.length - (k + 1)) + 1 := by omega
 rw [e, e2, List.replicate_succ, List.set_cons_zero, List.take_succ_eq_append_getElem h, List.append_assoc]
 rfl
theorem byC_zero : byC 0 = [.int .u8 0] := rfl
theorem cp_in (o p : Nat) (A B : List UInt8) : ∀ x ∈ ([(o, obB A), (p, obB B)] : Sto), ∀ r ∈ x.2.cells, ∀ y ∈ r, y.within (fun q => (([(o, obB A), (p, obB B)] : Sto).map (·.1)).contains q) = true := by
 intro x hx r hr y hy
 simp only [List.mem_cons, List.not_mem_nil, or_false] at hx
 rcases hx with rfl | rfl
 ·exact plain_B A r hr y hy _
 ·exact plain_B B r hr y hy _
set_option maxHeartbeats 8000000 in
theorem ref01_Text {l : List Int} (hd : Dig l) (hl : l.length ≤ 2 ^ 26) : CallD Tryz.prog F.ref01_Text [nat l] (· = .str (bs (natL (val l).toNat))) := by
 refine callD_by F.ref01_Text_ok ?_
 unfold F.ref01_Text_c
 simp
 refine callK_of (ref01_trim hd (by omega)) (by simp) ?_
 obtain ⟨N, hv, hT, len⟩ := natOf_val hd
 have eN : (val l).toNat = N := by omega
 rw [eN, hv]
 by_cases h0 : N = 0
 ·subst h0
  simp [natL_zero, bs]
 simp [digs_ne, h0]
 refine wm_loop (fun g : Nat × Nat × List UInt8 => ((Sl.empty.set 3 (grown g.1 g.2.2.length)).set 0 (nat (digs (g.2.1 : Int))), txS g.1 g.2.2)) (fun g => g.2.2 ++ decRev g.2.1 = decRev N ∧ g.2.1 ≤ N) (fun g => g.2.1) (0, N, []) (by simp) ?_ ?_
 ·refine tx_weak (o := 0) (B := []) ?_ (fun h => absurd rfl h) ?_
  ·repeat (first | exact sub_empty | refine sub_set (by simp [grown_zero]) ?_)
  ·repeat (first | exact sin_empty | refine sin_set (by first | exact tx_in _ _ | simp) ?_)
 rintro ⟨o, n, B⟩ ⟨he, hn⟩
 dsimp only at he hn
 by_cases c : n = 0
 ·subst c
  rw [decRev_zero, List.append_nil] at he
  have b0 : 0 < B.length := List.length_pos_iff.2 fun h => by
   rw [h] at he; rw [decRev_pos h0] at he; cases he
  have b1 : ¬ B.length = 0 := by omega
  have bl : B.length ≤ 1000000000 := by
   rw [he]
   exact Nat.le_trans (decRev_len hT) (by omega)
  have rl : B.reverse.length = B.length := by simp
  simp [digs_zero, grown_pos b1, txS_pos b1]
  simp (disch := omega) [if_pos, setOb, List.filter_cons]
  refine wm_loop (fun k : Nat => (((Sl.empty.set 8 (.int .i64 k)).set 7 (.ref (o + 1) 0 B.length)).set 3 (.ref o 0 B.length), [(o, obB B), (o + 1, obB (cpK B.reverse k))])) (fun k => k ≤ B.length) (fun k => B.length - k) 0 (by omega) ?_ ?_
  ·refine weak_obs ?_ (by simp [cpK_zero, byC_zero]) ?_ (cp_in _ _ _ _)
   ·repeat (first | exact sub_empty | refine sub_set (by simp) ?_)
   ·repeat (first | exact sin_empty | refine sin_set (by simp) ?_)
  intro k hk
  by_cases ck : k < B.length
  ·have ck1 : ((B.length : Int) - 1 - k).toNat = B.length - 1 - k := by omega
   have ck2 : B.length - 1 - k < B.length := by omega
   have ck3 : (0 : Int) ≤ (B.length : Int) - 1 - k := by omega
   have ck4 : (k : Int) ≤ (B.length : Int) - 1 := by omega
   have ck5 : (B.length : Int) - 1 - k < B.length := by omega
   have bm : (List.map byC (cpK B.reverse k)).set k [.int .u8 B[B.length - 1 - k].toNat] = List.map byC (cpK B.reverse (k + 1)) := by
    rw [← cpK_step (l := B.reverse) (k := k) (by simpa using ck), List.getElem_reverse, List.map_set]; rfl
   have lk : (cpK B.reverse k).length = B.length := by simp [cpK]; omega
   have bg : ∀ b : UInt8, byC b = [.int .u8 b.toNat] := fun _ => rfl
   have st := cpK_step (l := B.reverse) (k := k) (by simpa using ck)
   rw [List.getElem_reverse] at st
   have w1 : IntKind.i64.wrap ((B.length : Int) - 1) = (B.length : Int) - 1 := wrap64 (by omega) (by omega)
   have w2 : IntKind.i64.wrap ((B.length : Int) - 1 - k) = (B.length : Int) - 1 - k := wrap64 (by omega) (by omega)
   have w3 : IntKind.i64.wrap ((k : Int) + 1) = (k : Int) + 1 := wrap64 (by omega) (by omega)
   simp [ck, w1, w2, w3, ck1, ck2, ck3, ck4, ck5, lk, bg, setOb, List.filter_cons]
   rw [bm]
   refine ⟨k + 1, ck, by dsimp only; omega, ?_⟩
   refine weak_obs ?_ (by simp) ?_ (cp_in _ _ _ _)
   ·repeat (first | exact sub_empty | refine sub_set (by simp) ?_)
   ·repeat (first | exact sin_empty | refine sin_set (by simp) ?_)
  ·have hk2 : k = B.length := by omega
   subst hk2
   have all : cpK B.reverse B.length = B.reverse := cpK_all (by simp)
   have tk : List.take B.length (byR B.reverse) = byR B.reverse := List.take_of_length_le (by simp)
   simp [-List.map_reverse, all, rl, tk, bytesL_by, strOf_by]
   rw [natL_rev h0, ← he]
 have key := ref01_short (a := digs (n : Int)) (d := 1000000000) (digs_dig _) (by have := len n hn; omega) (by omega) (by omega)
 rw [val_digs (by omega)] at key
 obtain ⟨q, hq⟩ : ∃ q, n / 1000000000 = q := ⟨_, rfl⟩
 obtain ⟨d, hd'⟩ : ∃ d, n % 1000000000 = d := ⟨_, rfl⟩
 have e1 : (n : Int) / 1000000000 = (q : Int) := by omega
 have e2 : (n : Int) % 1000000000 = (d : Int) := by omega
 rw [e1, e2] at key
 simp [digs_ne, c, digs_lp c]
 refine callK_of key (by simp) ?_
 simp
 refine wm_loop (fun g : Nat × Nat × Nat × List UInt8 => ((((Sl.empty.set 6 (.int .i64 g.2.1)).set 5 (.int .u64 g.2.2.1)).set 3 (grown g.1 g.2.2.2.length)).set 0 (nat (digs (q : Int))), txS g.1 g.2.2.2))
  (fun g => g.2.1 ≤ 9 ∧ g.2.2.1 < 10 ^ (9 - g.2.1) ∧ g.2.2.2 ++ decRev (g.2.2.1 + 10 ^ (9 - g.2.1) * q) = decRev N) (fun g => 9 - g.2.1) (o, 0, d, B) ?_ ?_ ?_
 ·refine ⟨by dsimp only; omega, by dsimp only; omega, ?_⟩
  dsimp only
  rw [← he]
  congr 2; omega
 ·refine tx_weak (o := o) (B := B) ?_ (fun h => ?_) ?_
  ·repeat (first | exact sub_empty | refine sub_set (by simp) ?_)
  ·rw [txS_pos (fun e => h (List.length_eq_zero_iff.1 e))]; simp [E.look]
  ·repeat (first | exact sin_empty | refine sin_set (by first | exact tx_in _ _ | simp) ?_)
 rintro ⟨o, i, d, B⟩ ⟨hi, hd2, he2⟩
 dsimp only at hi hd2 he2
 have fin : d + 10 ^ (9 - i) * q = q → B ++ decRev q = decRev N := fun e => by rw [e] at he2; exact he2
 have qn : q < n := by omega
 by_cases c9 : i < 9
 case neg =>
  have : i = 9 := by omega
  subst this
  have d0 : d = 0 := by simp at hd2; exact hd2
  simp
  refine ⟨(o, q, B), ⟨fin (by simp [d0]), by dsimp only; omega⟩, by dsimp only; omega, tx_weak (o := o) (B := B) ?_ tx_look ?_⟩
  ·repeat (first | exact sub_empty | refine sub_set (by simp) ?_)
  ·repeat (first | exact sin_empty | refine sin_set (by first | exact tx_in _ _ | simp) ?_)
 have hi64 : (i : Int) < 9 := by omega
 obtain ⟨j, hj⟩ : ∃ j, 9 - i = j + 1 := ⟨8 - i, by omega⟩
 have hj2 : 9 - (i + 1) = j := by omega
 by_cases z : q = 0 ∧ d = 0
 ·obtain ⟨rfl, rfl⟩ := z
  simp [hi64, digs_zero]
  refine ⟨(o, 0, B), ⟨fin (by simp), by dsimp only; omega⟩, by dsimp only; omega, tx_weak (o := o) (B := B) ?_ tx_look ?_⟩
  ·repeat (first | exact sub_empty | refine sub_set (by simp [digs_zero]) ?_)
  ·repeat (first | exact sin_empty | refine sin_set (by first | exact tx_in _ _ | simp) ?_)
 have mz : d + 10 ^ (j + 1) * q ≠ 0 := by
  intro e
  have : 0 < 10 ^ (j + 1) := Nat.pow_pos (by omega)
  rcases Nat.mul_eq_zero.1 (show 10 ^ (j + 1) * q = 0 by omega) with h | h
  ·omega
  ·exact z ⟨h, by omega⟩
 rw [hj] at hd2 he2
 rw [dec_step mz] at he2
 have d32 : d < 4294967296 := Nat.lt_of_lt_of_le hd2 (Nat.le_trans (Nat.pow_le_pow_right (by omega) (show j + 1 ≤ 9 by omega)) (by omega))
 have hd3 : d / 10 < 10 ^ j := by rw [Nat.pow_succ] at hd2; omega
 have t1 : ((d : Int)).tmod 10 = (d : Int) % 10 := Int.tmod_eq_emod_of_nonneg (by omega)
 have t2 : ((d : Int)).tdiv 10 = (d : Int) / 10 := Int.tdiv_eq_ediv_of_nonneg (by omega)
 have t3 : IntKind.u64.wrap ((d : Int) / 10) = (d : Int) / 10 := wrapU64 (by omega) (by omega)
 have t4 : IntKind.u64.wrap (48 + (d : Int) % 10) = 48 + (d : Int) % 10 := wrapU64 (by omega) (by omega)
 have t6 : ((d : Int) / 10) % 18446744073709551616 = (d : Int) / 10 := by omega
 have t5 : IntKind.u8.wrap (48 + (d : Int) % 10) = 48 + (d : Int) % 10 := wrapU8 (by omega) (by omega)
 have bc := byC_digit (d := d)
 have he3 : (B ++ [UInt8.ofNat (48 + d % 10)]) ++ decRev (d / 10 + 10 ^ (9 - (i + 1)) * q) = decRev N := by rw [hj2, List.append_assoc]; exact he2
 have bl : B.length ≤ 1000000000 := by
  have h1 : (decRev N).length ≤ 10 * l.length := decRev_len hT
  rw [← he3] at h1
  simp at h1; omega
 have fin2 : ∀ (S : Sl) (σ : Sto) (o' : Nat), E.Sub (((((Sl.empty.set 6 (.int .i64 ((i + 1 : Nat) : Int))).set 5 (.int .u64 ((d / 10 : Nat) : Int))).set 3 (grown o' (B ++ [UInt8.ofNat (48 + d % 10)]).length)).set 0 (nat (digs (q : Int))))) S → E.look σ o' = some (obB (B ++ [UInt8.ofNat (48 + d % 10)])) →
  Weak [] (((((Sl.empty.set 6 (.int .i64 ((i + 1 : Nat) : Int))).set 5 (.int .u64 ((d / 10 : Nat) : Int))).set 3 (grown o' (B ++ [UInt8.ofNat (48 + d % 10)]).length)).set 0 (nat (digs (q : Int))))) (txS o' (B ++ [UInt8.ofNat (48 + d % 10)])) S σ := fun S σ o' h1 h2 => by
  refine tx_weak h1 (fun _ => h2) ?_
  repeat (first | exact sin_empty | refine sin_set (by first | exact tx_in _ _ | simp) ?_)
 have cnd : 0 < d ∨ (¬ 0 < d ∧ 0 < (digs (q : Int)).length) := by
  by_cases q0 : q = 0
  ·left; omega
  ·by_cases d0 : d = 0
   ·exact .inr ⟨by omega, digs_lp q0⟩
   ·left; omega
 have gp : ∀ (o n : Nat), grown o (n + 1) = .ref o 0 (n + 1) := fun o n => grown_pos (by omega)
 have gp1 : ∀ (o : Nat), grown o 1 = .ref o 0 1 := fun o => grown_pos (by omega)
 generalize UInt8.ofNat (48 + d % 10) = b at *
 rcases cnd with g1 | ⟨g1, g2⟩ <;> by_cases b0 : B.length = 0
 ·have B0 := List.length_eq_zero_iff.1 b0
  subst B0
  simp [hi64, g1, txS_nil, grown_zero, t1, t2, t3, t4, t5, t6, setOb, List.filter_cons]
  rw [wrap64 (by omega) (by omega)]
  refine ⟨(1, i + 1, d / 10, [] ++ [b]), ⟨by dsimp only; omega, by dsimp only; rw [hj2]; exact hd3, he3⟩, by dsimp only; omega, fin2 _ _ 1 ?_ (by simp [E.look, bc])⟩
  repeat (first | exact sub_empty | refine sub_set (by simp [gp, gp1]) ?_)
 ·simp [hi64, g1, txS_pos b0, grown_pos b0, t1, t2, t3, t4, t5, setOb, List.filter_cons]
  simp (disch := omega) [if_pos, t1, t2, t3, t4, t5, t6, setOb, List.filter_cons]
  rw [wrap64 (by omega) (by omega)]
  refine ⟨(o + 2, i + 1, d / 10, B ++ [b]), ⟨by dsimp only; omega, by dsimp only; rw [hj2]; exact hd3, he3⟩, by dsimp only; omega, fin2 _ _ (o + 2) ?_ (by simp [E.look, bc])⟩
  repeat (first | exact sub_empty | refine sub_set (by simp [gp, gp1]) ?_)
 ·have B0 := List.length_eq_zero_iff.1 b0
  subst B0
  simp [hi64, g1, g2, txS_nil, grown_zero, t1, t2, t3, t4, t5, t6, setOb, List.filter_cons]
  rw [wrap64 (by omega) (by omega)]
  refine ⟨(1, i + 1, d / 10, [] ++ [b]), ⟨by dsimp only; omega, by dsimp only; rw [hj2]; exact hd3, he3⟩, by dsimp only; omega, fin2 _ _ 1 ?_ (by simp [E.look, bc])⟩
  repeat (first | exact sub_empty | refine sub_set (by simp [gp, gp1]) ?_)
 ·simp [hi64, g1, g2, txS_pos b0, grown_pos b0, t1, t2, t3, t4, t5, setOb, List.filter_cons]
  simp (disch := omega) [if_pos, t1, t2, t3, t4, t5, t6, setOb, List.filter_cons]
  rw [wrap64 (by omega) (by omega)]
  refine ⟨(o + 2, i + 1, d / 10, B ++ [b]), ⟨by dsimp only; omega, by dsimp only; rw [hj2]; exact hd3, he3⟩, by dsimp only; omega, fin2 _ _ (o + 2) ?_ (by simp [E.look, bc])⟩
  repeat (first | exact sub_empty | refine sub_set (by simp [gp, gp1]) ?_)
def numL (l : List Int) : List UInt8 := natL (val l).toNat
def ratL (r : Raw) : List UInt8 := (if r.neg then 45 :: numL r.num else numL r.num) ++ (if val r.den = 1 then [] else 47 :: numL r.den)
theorem numL_len {l : List Int} (hd : Dig l) : (numL l).length ≤ 10 * l.length + 1 := by
 obtain ⟨N, hv, hT, _⟩ := natOf_val hd
 unfold numL
 rw [hv]
 exact natL_len (by simpa using hT)
theorem ratL_len {r : Raw} {K : Nat} (h : r.Ok K) : (ratL r).length ≤ 20 * K + 4 := by
 have h1 := numL_len h.dn
 have h2 := numL_len h.dd
 have h3 := h.ln
 have h4 := h.ld
 unfold ratL
 rw [List.length_append]
 split <;> split <;> simp <;> omega
theorem bs45 : ({ data := #[45] } : ByteArray) = bs [45] := rfl
theorem bs47 : ({ data := #[47] } : ByteArray) = bs [47] := rfl
set_option maxHeartbeats 4000000 in
theorem ratio_Text {x : Raw} {K : Nat} (hK : 1 ≤ K) (hk : K ≤ 2 ^ 24) (ok : x.Ok K) : CallD Tryz.prog F.ratio_Text [x.v] (· = .str (bs (ratL (rawOf x.q)))) := by
 have f := Raw.fits ok hK
 have ro := rawOf_ok f
 have ln := ro.ln
 have ld := ro.ld
 have mk := ratio_made (neg := x.neg) ok.dn ok.dd (by have := ok.ln; omega) (by have := ok.ld; omega)
 have eq : mkRat (sgn x.neg (val x.num)) (val x.den).toNat = x.q := rfl
 rw [eq] at mk
 refine callD_by F.ratio_Text_ok ?_
 unfold F.ratio_Text_c
 simp [setOb, List.filter_cons, raw_v, Raw.c]
 refine callK_of mk (by simp) ?_
 simp [ratV, raw_v, Raw.c, setOb, List.filter_cons]
 generalize rawOf x.q = r at *
 have l1 := numL_len ro.dn
 have l2 := numL_len ro.dd
 have t1 := nat_Text ro.dn (by omega)
 have t2 := nat_Text ro.dd (by omega)
 rw [show natL (val r.num).toNat = numL r.num from rfl] at t1
 rw [show natL (val r.den).toNat = numL r.den from rfl] at t2
 have sm := nat_Small ro.dd (by omega)
 obtain ⟨u, b, hs, hb⟩ : ∃ (u : Int) (b : Bool), smallV (val r.den) = .tup [.int .u64 u, .bool b] ∧ ((val r.den = 1 ∧ b = true ∧ u = 1) ∨ (¬ val r.den = 1 ∧ (b = false ∨ (b = true ∧ ¬ u = 1)))) := by
  unfold smallV
  by_cases g : val r.den < 18446744073709551616
  ·exact ⟨val r.den, true, by rw [if_pos g], by by_cases d1 : val r.den = 1 <;> simp [d1]⟩
  ·exact ⟨0, false, by rw [if_neg g], .inr ⟨by omega, .inl rfl⟩⟩
 rw [hs] at sm
 have z1 : 1 + (numL r.num).length ≤ 1099511627776 := by omega
 have z2 : (numL r.num).length + 1 ≤ 1099511627776 := by omega
 have z3 : (numL r.num).length + 1 + 1 ≤ 1099511627776 := by omega
 have z4 : (numL r.num).length + 1 + (numL r.den).length ≤ 1099511627776 := by omega
 have z5 : (numL r.num).length + 1 + 1 + (numL r.den).length ≤ 1099511627776 := by omega
 refine callK_of t1 (by simp) ?_
 unfold ratL
 cases hn : r.neg <;> rcases hb with ⟨d1, rfl, rfl⟩ | ⟨d1, rfl | ⟨rfl, u1⟩⟩ <;> simp [hn, d1, bs45, bs47, bs_app, z1, z2, z3, z4, setOb, List.filter_cons]
 ·refine callK_of sm (by simp) ?_
  simp [setOb, List.filter_cons]
 ·refine callK_of sm (by simp) ?_
  simp [bs45, bs47, bs_app, z1, z2, z3, z4, setOb, List.filter_cons]
  refine callK_of t2 (by simp) ?_
  simp [bs45, bs47, bs_app, z1, z2, z3, z4, setOb, List.filter_cons]
 ·refine callK_of sm (by simp) ?_
  simp [u1, bs45, bs47, bs_app, z1, z2, z3, z4, setOb, List.filter_cons]
  refine callK_of t2 (by simp) ?_
  simp [bs45, bs47, bs_app, z1, z2, z3, z4, setOb, List.filter_cons]
 ·refine callK_of sm (by simp) ?_
  simp [setOb, List.filter_cons]
 ·refine callK_of sm (by simp) ?_
  simp [bs45, bs47, bs_app, z1, z2, z3, z4, setOb, List.filter_cons]
  refine callK_of t2 (by simp) ?_
  simp [bs45, bs47, bs_app, z1, z2, z3, z5, setOb, List.filter_cons]
 ·refine callK_of sm (by simp) ?_
  simp [u1, bs45, bs47, bs_app, z1, z2, z3, z4, setOb, List.filter_cons]
  refine callK_of t2 (by simp) ?_
  simp [bs45, bs47, bs_app, z1, z2, z3, z5, setOb, List.filter_cons]
set_option maxHeartbeats 4000000 in
theorem ref02_Text {x : Raw} {K : Nat} (hK : 1 ≤ K) (hk : K ≤ 2 ^ 24) (ok : x.Ok K) : CallD Tryz.prog F.ref02_Text [x.v] (· = .str (bs (ratL (rawOf x.q)))) := by
 have f := Raw.fits ok hK
 have ro := rawOf_ok f
 have ln := ro.ln
 have ld := ro.ld
 have mk := ref02_valid (rok ok (show K ≤ 2 ^ 33 by omega))
 refine callD_by F.ref02_Text_ok ?_
 unfold F.ref02_Text_c
 simp [setOb, List.filter_cons, raw_v, Raw.c]
 refine callK_of mk (by simp [raw_v, Raw.c]) ?_
 simp [ratV, raw_v, Raw.c, setOb, List.filter_cons]
 generalize rawOf x.q = r at *
 have l1 := numL_len ro.dn
 have l2 := numL_len ro.dd
 have t1 := ref01_Text ro.dn (by omega)
 have t2 := ref01_Text ro.dd (by omega)
 rw [show natL (val r.num).toNat = numL r.num from rfl] at t1
 rw [show natL (val r.den).toNat = numL r.den from rfl] at t2
 have l3 : (digs 1).length ≤ 1 := digs_length_le (by omega)
 have cm := ref01_Compare (b := digs 1) ro.dd (digs_dig _) (by omega) (by omega)
 rw [val_digs (by omega)] at cm
 obtain ⟨c, hc, hb⟩ : ∃ c : Int, (if val r.den < 1 then -1 else if 1 < val r.den then 1 else 0) = c ∧ ((val r.den = 1 ∧ c = 0) ∨ (¬ val r.den = 1 ∧ ¬ c = 0)) := by
  refine ⟨_, rfl, ?_⟩
  by_cases g1 : val r.den < 1
  ·exact .inr ⟨by omega, by simp [g1]⟩
  ·by_cases g2 : 1 < val r.den
   ·exact .inr ⟨by omega, by simp [g1, g2]⟩
   ·exact .inl ⟨by omega, by simp [g1, g2]⟩
 rw [hc] at cm
 have z1 : 1 + (numL r.num).length ≤ 1099511627776 := by omega
 have z2 : (numL r.num).length + 1 ≤ 1099511627776 := by omega
 have z3 : (numL r.num).length + 1 + 1 ≤ 1099511627776 := by omega
 have z4 : (numL r.num).length + 1 + (numL r.den).length ≤ 1099511627776 := by omega
 have z5 : (numL r.num).length + 1 + 1 + (numL r.den).length ≤ 1099511627776 := by omega
 refine callK_of t1 (by simp) ?_
 unfold ratL
 cases hn : r.neg <;> rcases hb with ⟨d1, rfl⟩ | ⟨d1, c1⟩ <;> simp [hn, d1, bs45, bs47, bs_app, z1, z2, z3, z4, setOb, List.filter_cons]
 ·refine callFK_of (ref01_Of (n := 1) (by omega) (by omega)) (by simp) ?_
  simp
  refine callFK_of cm (by simp) ?_
  simp [setOb, List.filter_cons]
 ·refine callFK_of (ref01_Of (n := 1) (by omega) (by omega)) (by simp) ?_
  simp
  refine callFK_of cm (by simp) ?_
  simp [c1, bs45, bs47, bs_app, z1, z2, z3, z4, setOb, List.filter_cons]
  refine callK_of t2 (by simp) ?_
  simp [bs45, bs47, bs_app, z1, z2, z3, z4, setOb, List.filter_cons]
 ·refine callFK_of (ref01_Of (n := 1) (by omega) (by omega)) (by simp) ?_
  simp
  refine callFK_of cm (by simp) ?_
  simp [setOb, List.filter_cons]
 ·refine callFK_of (ref01_Of (n := 1) (by omega) (by omega)) (by simp) ?_
  simp
  refine callFK_of cm (by simp) ?_
  simp [c1, bs45, bs47, bs_app, z1, z2, z3, z4, setOb, List.filter_cons]
  refine callK_of t2 (by simp) ?_
  simp [bs45, bs47, bs_app, z1, z2, z3, z5, setOb, List.filter_cons]
end Go.Proofs.YtmjgehbpcchjpaaGreatDoor
