import Derived.Test.YtkockkfmjmheeaaGreatGQ
import Derived.Test.YtkockkfmjmheeaaGreatGS
import Derived.Test.YtkockkfmjmheeaaGreatHA
import Derived.Test.YtkockkfmjmheeaaGreatGD
import Derived.Test.YtkockkfmjmheeaaGreatGC
import Derived.Test.YtkockkfmjmheeaaGreatProg
import Derived.KernelRfl
import Derived.Test.YtkockkfmjmheeaaGreatGE
import Derived.Test.YtkockkfmjmheeaaGreatGN
import Derived.Test.YtkockkfmjmheeaaGreatGL
namespace Go.Proofs.YtkockkfmjmheeaaGreat.F
open Go Go.Proofs Go.Proofs.YtkockkfmjmheeaaGreat.E Go.Proofs.YtkockkfmjmheeaaGreat.Q
abbrev trace_Prior : Nat := 53
def trace_Prior_c : MFn := ⟨46,(.seq (r [o 1 (.box (.t 0)),o 2 (.alloc zR),o 3 (.mv (i 0))] [1,2]) (.seq (r [o 8 (.call 54 [(.c (.int .u64 1))]),o 9 (.call 54 [(.c (.int .u64 1))]),o 4 (.mv (.t 8)),o 5 (.mv (.t 9))] [1,2,4,5]) (.seq (.seq (r [o 10 (.fA 5 (.t 1)),o 11 (.ld none (.t 10)),o 12 (.lenS (.t 11)),o 13 (.mv (i 0))] [2,4,5,11,12,13]) (.block 0 (.loop (.seq (r [o 14 (.bin .lss (.t 13) (.t 12))] [2,4,5,11,12,13,14]) (.seq (.cond (.t 14) .skip (.exit 0)) (.seq (.block 1 (.seq (r [o 15 (.ixA 4 (.t 11) (.t 13)),o 16 (.ld (some 4) (.t 15)),o 7 (.alloc [.int .i64 0,.int .i64 0,.int .i64 0,.int .i64 0]),z (.st 4 (.t 7) (.t 16))] [2,4,5,7,11,12,13]) (.seq (.seq (r [o 17 (.fA 2 (.t 7)),o 18 (.ld none (.t 17)),o 19 (.bin .lss (.t 18) (i 1)),o 20 (.mv (.t 19)),n 21 20 (.fA 3 (.t 7)),n 22 20 (.ld none (.t 21)),n 23 20 (.fA 2 (.t 7)),n 24 20 (.ld none (.t 23)),n 25 20 (.bin .lss (.t 22) (.t 24)),o 26 (.pick (.t 20) (.c (.bool true)) (.t 25))] [2,4,5,7,11,12,13,26]) (.cond (.t 26) (.seq (r [o 27 (.build zR []),z (.st 3 (.t 2) (.t 27)),o 3 (.mv (i 1))] [2,3]) .ret) .skip)) (r [o 28 (.mv (.t 4)),o 29 (.fA 2 (.t 7)),o 30 (.ld none (.t 29)),o 31 (.cvt .u64 (.t 30)),o 32 (.callF 54 [(.t 31)]),o 33 (.callF 58 [(.t 28),(.t 32)]),o 34 (.mv (.t 5)),o 35 (.fA 3 (.t 7)),o 36 (.ld none (.t 35)),o 37 (.cvt .u64 (.t 36)),o 38 (.callF 54 [(.t 37)]),o 39 (.callF 58 [(.t 34),(.t 38)]),o 4 (.mv (.t 33)),o 5 (.mv (.t 39))] [2,4,5,11,12,13])))) (r [o 40 (.bin .add (.t 13) (i 1)),o 13 (.mv (.t 40))] [2,4,5,11,12,13]))))))) (.seq (r [o 41 (.mv (.t 4)),o 42 (.mv (.t 5)),o 43 (.call 87 [(.c (.bool false)),(.t 41),(.t 42)]),o 44 (.ext (.t 43) 0),o 45 (.ext (.t 43) 1),z (.st 3 (.t 2) (.t 44)),o 3 (.mv (.t 45))] [2,3]) .ret)))),[.cell 2 (some 3),.t 3]⟩
theorem trace_Prior_ok : cFn Tryz.prog (kps [[1,2],[1,2,4,5],[2,4,5,11,12,13],[2,4,5,11,12,13,14],[2,4,5,7,11,12,13],[2,4,5,7,11,12,13,26],[2,3],[2,4,5,11,12,13],[2,4,5,11,12,13],[2,3]]) [] 53 = some trace_Prior_c := by kernel_rfl
abbrev ref02_Make : Nat := 21
def ref02_Make_c : MFn := ⟨28,(.seq (r [o 4 (.alloc zR),o 5 (.mv (i 0))] [0,1,4]) (.seq (r [o 11 (.mv (.t 0)),o 12 (.call 50 [(.t 11)]),o 10 (.mv (.t 12)),o 13 (.ext (.t 10) 0),o 14 (.ext (.t 10) 1),o 6 (.mv (.t 13)),o 7 (.mv (.t 14))] [1,4,6,7]) (.seq (r [o 16 (.mv (.t 1)),o 17 (.call 50 [(.t 16)]),o 15 (.mv (.t 17)),o 18 (.ext (.t 15) 0),o 19 (.ext (.t 15) 1),o 8 (.mv (.t 18)),o 9 (.mv (.t 19))] [4,6,7,8,9]) (.seq (r [o 20 (.mv (.t 7)),o 21 (.mv (.t 9)),o 22 (.binB .neq (.t 20) (.t 21)),o 23 (.mv (.t 6)),o 24 (.mv (.t 8)),o 25 (.call 51 [(.t 22),(.t 23),(.t 24)]),o 26 (.ext (.t 25) 0),o 27 (.ext (.t 25) 1),z (.st 3 (.t 4) (.t 26)),o 5 (.mv (.t 27))] [4,5]) .ret)))),[.cell 4 (some 3),.t 5]⟩
theorem ref02_Make_ok : cFn Tryz.prog (kps [[0,1,4],[1,4,6,7],[4,6,7,8,9],[4,5]]) [] 21 = some ref02_Make_c := by kernel_rfl
abbrev ref15_Prior : Nat := 62
def ref15_Prior_c : MFn := ⟨45,(.seq (r [o 1 (.box (.t 0)),o 2 (.alloc zR),o 3 (.mv (i 0))] [1,2]) (.seq (r [o 9 (.call 42 []),o 4 (.alloc zR),z (.st 3 (.t 4) (.t 9))] [1,2,4]) (.seq (.seq (r [o 5 (.mv (i 0))] [1,2,4,5]) (.block 0 (.loop (.seq (.seq (r [o 10 (.mv (.t 5)),o 11 (.fA 5 (.t 1)),o 12 (.ld none (.t 11)),o 13 (.lenS (.t 12)),o 14 (.bin .lss (.t 10) (.t 13))] [1,2,4,5,14]) (.cond (.t 14) .skip (.exit 0))) (.seq (.block 1 (.seq (r [o 17 (.fA 5 (.t 1)),o 18 (.ld none (.t 17)),o 19 (.mv (.t 5)),o 20 (.ixA 4 (.t 18) (.t 19)),o 21 (.ld (some 4) (.t 20)),o 6 (.alloc [.int .i64 0,.int .i64 0,.int .i64 0,.int .i64 0]),z (.st 4 (.t 6) (.t 21))] [1,2,4,5,6]) (.seq (.seq (r [o 22 (.fA 2 (.t 6)),o 23 (.ld none (.t 22)),o 24 (.bin .lss (.t 23) (i 1)),o 25 (.mv (.t 24)),n 26 25 (.fA 3 (.t 6)),n 27 25 (.ld none (.t 26)),n 28 25 (.fA 2 (.t 6)),n 29 25 (.ld none (.t 28)),n 30 25 (.bin .lss (.t 27) (.t 29)),o 31 (.pick (.t 25) (.c (.bool true)) (.t 30))] [1,2,4,5,6,31]) (.cond (.t 31) (.seq (r [o 32 (.build zR []),z (.st 3 (.t 2) (.t 32)),o 3 (.mv (i 1))] [2,3]) .ret) .skip)) (.seq (r [o 34 (.fA 2 (.t 6)),o 35 (.ld none (.t 34)),o 36 (.fA 3 (.t 6)),o 37 (.ld none (.t 36)),o 38 (.call 21 [(.t 35),(.t 37)]),o 33 (.mv (.t 38)),o 39 (.ext (.t 33) 0),o 40 (.ext (.t 33) 1),o 7 (.alloc zR),z (.st 3 (.t 7) (.t 39)),o 8 (.mv (.t 40))] [1,2,4,5,7]) (r [o 41 (.ld (some 3) (.t 4)),o 42 (.ld (some 3) (.t 7)),o 43 (.call 40 [(.t 41),(.t 42)]),z (.st 3 (.t 4) (.t 43))] [1,2,4,5]))))) (r [o 15 (.mv (.t 5)),o 16 (.bin .add (.t 15) (i 1)),o 5 (.mv (.t 16))] [1,2,4,5])))))) (.seq (r [o 44 (.ld (some 3) (.t 4)),z (.st 3 (.t 2) (.t 44)),o 3 (.mv (i 0))] [2,3]) .ret)))),[.cell 2 (some 3),.t 3]⟩
theorem ref15_Prior_ok : cFn Tryz.prog (kps [[1,2],[1,2,4],[1,2,4,5],[1,2,4,5,14],[1,2,4,5],[1,2,4,5,6],[1,2,4,5,6,31],[2,3],[1,2,4,5,7],[1,2,4,5],[2,3]]) [] 62 = some ref15_Prior_c := by kernel_rfl
abbrev weigh_wrong : Nat := 23
def weigh_wrong_c : MFn := ⟨12,(.seq (r [o 1 (.box (.t 0)),o 2 (.mv (.c (.bool false)))] [1]) (.seq (r [o 6 (.ld (some 9) (.t 1)),o 7 (.call 53 [(.t 6)]),o 5 (.mv (.t 7)),o 8 (.ext (.t 5) 0),o 9 (.ext (.t 5) 1),o 3 (.alloc zR),z (.st 3 (.t 3) (.t 8)),o 4 (.mv (.t 9))] [4]) (.seq (r [o 10 (.mv (.t 4)),o 11 (.bin .neq (.t 10) (i 0)),o 2 (.mv (.t 11))] [2]) .ret))),[.t 2]⟩
theorem weigh_wrong_ok : cFn Tryz.prog (kps [[1],[4],[2]]) [] 23 = some weigh_wrong_c := by kernel_rfl
abbrev slices_IndexFunc_Run_Run : Nat := 52
def slices_IndexFunc_Run_Run_c : MFn := ⟨19,(.seq (r [o 4 (.mv (i 0))] [0,1]) (.seq (.seq (r [o 6 (.mv (.t 0)),o 7 (.lenS (.t 6)),o 8 (.mv (i 0))] [0,1,7,8]) (.block 0 (.loop (.seq (r [o 9 (.bin .lss (.t 8) (.t 7))] [0,1,7,8,9]) (.seq (.cond (.t 9) .skip (.exit 0)) (.seq (.block 1 (.seq (r [o 10 (.mv (.t 8)),o 5 (.mv (.t 10))] [0,1,5,7,8]) (.seq (r [o 11 (.mv (.t 1)),o 12 (.mv (.t 0)),o 13 (.mv (.t 5)),o 14 (.ixA 9 (.t 12) (.t 13)),o 15 (.ld (some 9) (.t 14)),o 16 (.callV (.t 11) [(.t 15)])] [0,1,5,7,8,16]) (.cond (.t 16) (.seq (r [o 17 (.mv (.t 5)),o 4 (.mv (.t 17))] [4]) .ret) .skip)))) (r [o 18 (.bin .add (.t 8) (i 1)),o 8 (.mv (.t 18))] [0,1,7,8]))))))) (.seq (r [o 4 (.mv (i (-1)))] [4]) .ret))),[.t 4]⟩
theorem slices_IndexFunc_Run_Run_ok : cFn Tryz.prog (kps [[0,1],[0,1,7,8],[0,1,7,8,9],[0,1,5,7,8],[0,1,5,7,8,16],[4],[0,1,7,8],[4]]) [] 52 = some slices_IndexFunc_Run_Run_c := by kernel_rfl
abbrev slices_ContainsFunc_Run_Run : Nat := 22
def slices_ContainsFunc_Run_Run_c : MFn := ⟨9,(.seq (r [o 4 (.mv (.c (.bool false)))] [0,1]) (.seq (r [o 5 (.mv (.t 0)),o 6 (.mv (.t 1)),o 7 (.call 52 [(.t 5),(.t 6)]),o 8 (.bin .geq (.t 7) (i 0)),o 4 (.mv (.t 8))] [4]) .ret)),[.t 4]⟩
theorem slices_ContainsFunc_Run_Run_ok : cFn Tryz.prog (kps [[0,1],[4]]) [] 22 = some slices_ContainsFunc_Run_Run_c := by kernel_rfl
abbrev ref31_priors : Nat := 28
def ref31_priors_c : MFn := ⟨21,(.seq (r [o 2 (.mv (.c (.bool false)))] [0]) (.seq (.seq (r [o 7 (.mv (.t 0)),o 8 (.lenS (.t 7)),o 9 (.mv (i 0))] [7,8,9]) (.block 0 (.loop (.seq (r [o 10 (.bin .lss (.t 9) (.t 8))] [7,8,9,10]) (.seq (.cond (.t 10) .skip (.exit 0)) (.seq (.block 1 (.seq (r [o 11 (.ixA 9 (.t 7) (.t 9)),o 12 (.ld (some 9) (.t 11)),o 4 (.alloc [.int .i64 0,.int .i64 0,.int .i64 0,.int .i64 0,.nils,.nils,.bool false,.nils,.nils]),z (.st 9 (.t 4) (.t 12))] [4,7,8,9]) (.seq (r [o 14 (.ld (some 9) (.t 4)),o 15 (.call 62 [(.t 14)]),o 13 (.mv (.t 15)),o 16 (.ext (.t 13) 0),o 17 (.ext (.t 13) 1),o 5 (.alloc zR),z (.st 3 (.t 5) (.t 16)),o 6 (.mv (.t 17))] [6,7,8,9]) (.seq (r [o 18 (.mv (.t 6)),o 19 (.bin .neq (.t 18) (i 0))] [7,8,9,19]) (.cond (.t 19) (.seq (r [o 2 (.mv (.c (.bool false)))] [2]) .ret) .skip))))) (r [o 20 (.bin .add (.t 9) (i 1)),o 9 (.mv (.t 20))] [7,8,9]))))))) (.seq (r [o 2 (.mv (.c (.bool true)))] [2]) .ret))),[.t 2]⟩
theorem ref31_priors_ok : cFn Tryz.prog (kps [[0],[7,8,9],[7,8,9,10],[4,7,8,9],[6,7,8,9],[7,8,9,19],[2],[7,8,9],[2]]) [] 28 = some ref31_priors_c := by kernel_rfl
abbrev weigh_square : Nat := 27
def weigh_square_c : MFn := ⟨23,(.seq (r [o 1 (.box (.t 0)),o 2 (.alloc zR)] [1,2]) (.seq (r [o 8 (.ld (some 9) (.t 1)),o 9 (.call 53 [(.t 8)]),o 7 (.mv (.t 9)),o 10 (.ext (.t 7) 0),o 11 (.ext (.t 7) 1),o 3 (.alloc zR),z (.st 3 (.t 3) (.t 10)),o 4 (.mv (.t 11))] [1,2,3]) (.seq (r [o 13 (.fA 6 (.t 1)),o 14 (.ld (some 3) (.t 13)),o 15 (.fA 6 (.t 1)),o 16 (.ld (some 3) (.t 15)),o 17 (.callF 35 [(.t 14),(.t 16)]),o 18 (.ld (some 3) (.t 3)),o 19 (.callF 34 [(.t 17),(.t 18)]),o 12 (.mv (.t 19)),o 20 (.ext (.t 12) 0),o 21 (.ext (.t 12) 1),o 5 (.alloc zR),z (.st 3 (.t 5) (.t 20)),o 6 (.mv (.t 21))] [2,5]) (.seq (r [o 22 (.ld (some 3) (.t 5)),z (.st 3 (.t 2) (.t 22))] [2]) .ret)))),[.cell 2 (some 3)]⟩
theorem weigh_square_ok : cFn Tryz.prog (kps [[1,2],[1,2,3],[2,5],[2]]) [] 27 = some weigh_square_c := by kernel_rfl
abbrev ref31_square : Nat := 32
def ref31_square_c : MFn := ⟨23,(.seq (r [o 1 (.box (.t 0)),o 2 (.alloc zR)] [1,2]) (.seq (r [o 8 (.ld (some 9) (.t 1)),o 9 (.call 62 [(.t 8)]),o 7 (.mv (.t 9)),o 10 (.ext (.t 7) 0),o 11 (.ext (.t 7) 1),o 3 (.alloc zR),z (.st 3 (.t 3) (.t 10)),o 4 (.mv (.t 11))] [1,2,3]) (.seq (r [o 13 (.fA 6 (.t 1)),o 14 (.ld (some 3) (.t 13)),o 15 (.fA 6 (.t 1)),o 16 (.ld (some 3) (.t 15)),o 17 (.callF 40 [(.t 14),(.t 16)]),o 18 (.ld (some 3) (.t 3)),o 19 (.callF 39 [(.t 17),(.t 18)]),o 12 (.mv (.t 19)),o 20 (.ext (.t 12) 0),o 21 (.ext (.t 12) 1),o 5 (.alloc zR),z (.st 3 (.t 5) (.t 20)),o 6 (.mv (.t 21))] [2,5]) (.seq (r [o 22 (.ld (some 3) (.t 5)),z (.st 3 (.t 2) (.t 22))] [2]) .ret)))),[.cell 2 (some 3)]⟩
theorem ref31_square_ok : cFn Tryz.prog (kps [[1,2],[1,2,3],[2,5],[2]]) [] 32 = some ref31_square_c := by kernel_rfl
end Go.Proofs.YtkockkfmjmheeaaGreat.F

namespace Go.Proofs.YtkockkfmjmheeaaGreat
open Go Go.Proofs Go.Proofs.YtkockkfmjmheeaaGreat.E
set_option linter.unusedSimpArgs false
set_option linter.unusedVariables false
structure Dw where
 s : Int
 i : Int
 o : Int
 w : Int
def dwC (d : Dw) : List V := [.int .i64 d.s, .int .i64 d.i, .int .i64 d.o, .int .i64 d.w]
def Dw.Ok (d : Dw) : Prop := (-9223372036854775808 ≤ d.o ∧ d.o < 9223372036854775808) ∧ (-9223372036854775808 ≤ d.w ∧ d.w < 9223372036854775808)
structure Rn where
 k : Int
 n : Int
 x : Int
 y : Int
 l : List Tr
 ds : List Dw
 w : Raw
def Rn.v (r : Rn) : Tr := .mk r.x r.y r.l
def rnC (r : Rn) : List V := [.int .i64 r.k, .int .i64 r.n, .int .i64 r.x, .int .i64 r.y, .dat (r.l.map Tr.cells), .dat (r.ds.map dwC), .bool r.w.neg, nat r.w.num, nat r.w.den]
theorem rnC_v (r : Rn) : [.int .i64 r.x, .int .i64 r.y, .dat (r.l.map Tr.cells)] = r.v.cells := by unfold Rn.v; rw [cells_mk]
theorem rnC_w (r : Rn) : [.bool r.w.neg, nat r.w.num, nat r.w.den] = r.w.c := rfl
@[simp] theorem rnC_length (r : Rn) : (rnC r).length = 9 := rfl
theorem rnC_toD (σ : Sto) (n : Nat) (r : Rn) : mapO (toD σ (n + 1)) (rnC r) = some (rnC r) := (rfl)
theorem rnC_within (r : Rn) (p : Nat → Bool) : ∀ z ∈ rnC r, z.within p = true := by
 intro z hz
 simp [rnC] at hz
 rcases hz with rfl | rfl | rfl | rfl | rfl | rfl | rfl | rfl | rfl <;> simp [V.within]
structure Rn.Ok (r : Rn) : Prop where
 v : r.v.Ok
 w : r.w.Ok 8
 d : ∀ d ∈ r.ds, d.Ok
 l : r.ds.length ≤ 12
 m : manyT r.v ≤ 100
abbrev rl (l : List Rn) : V := .dat (l.map rnC)
def dOk (d : Dw) : Bool := decide (1 ≤ d.o) && decide (d.o ≤ d.w)
def rOk (r : Rn) : Bool := r.ds.all dOk
def prN (l : List Dw) : Int := l.foldl (fun a d => a * d.o) 1
def prD (l : List Dw) : Int := l.foldl (fun a d => a * d.w) 1
theorem prN_snoc (l : List Dw) (d : Dw) : prN (l ++ [d]) = prN l * d.o := by simp [prN, List.foldl_append]
theorem prD_snoc (l : List Dw) (d : Dw) : prD (l ++ [d]) = prD l * d.w := by simp [prD, List.foldl_append]
theorem pr_ind {P : List Dw → Prop} (h0 : P []) (h1 : ∀ l d, P l → P (l ++ [d])) (l : List Dw) : P l := by
 have : ∀ n (l : List Dw), l.length = n → P l := by
  intro n
  induction n with
  | zero => intro l h; rw [List.length_eq_zero_iff.1 h]; exact h0
  | succ n ih =>
    intro l h
    have hne : l ≠ [] := fun e => by rw [e] at h; simp at h
    rw [← List.dropLast_concat_getLast hne]
    exact h1 _ _ (ih _ (by rw [List.length_dropLast]; omega))
 exact this _ l rfl
theorem pr_pos (l : List Dw) : l.all dOk = true → 0 < prN l ∧ 0 < prD l := by
 induction l using pr_ind with
 | h0 => intro _; exact ⟨by decide, by decide⟩
 | h1 l d ih =>
   intro h
   rw [List.all_append, Bool.and_eq_true] at h
   obtain ⟨a, b⟩ := ih h.1
   have hd := h.2
   simp [dOk] at hd
   rw [prN_snoc, prD_snoc]
   exact ⟨Int.mul_pos a (by omega), Int.mul_pos b (by omega)⟩
theorem pr_len (l : List Dw) : l.all dOk = true → (∀ d ∈ l, d.Ok) → (digs (prN l)).length ≤ 1 + 2 * l.length ∧ (digs (prD l)).length ≤ 1 + 2 * l.length := by
 induction l using pr_ind with
 | h0 =>
   intro _ _
   have : (digs 1).length ≤ 1 := digs_length_le (by decide)
   exact ⟨by simpa [prN] using this, by simpa [prD] using this⟩
 | h1 l d ih =>
   intro h hk
   rw [List.all_append, Bool.and_eq_true] at h
   obtain ⟨a, b⟩ := ih h.1 fun x hx => hk x (by simp [hx])
   obtain ⟨pa, pb⟩ := pr_pos l h.1
   have hd := h.2
   simp [dOk] at hd
   obtain ⟨⟨_, o1⟩, _, w1⟩ := hk d (by simp)
   have lo : (digs d.o).length ≤ 2 := digs_length_le (by omega)
   have lw : (digs d.w).length ≤ 2 := digs_length_le (by omega)
   have m1 := digs_mul_le (by omega) (by omega) a lo
   have m2 := digs_mul_le (by omega) (by omega) b lw
   rw [prN_snoc, prD_snoc, List.length_append, List.length_singleton]
   exact ⟨by omega, by omega⟩
def prQ (l : List Dw) : Rat := mkRat (prN l) (prD l).toNat
theorem prQ_nil : prQ [] = 1 := by decide
theorem prQ_snoc {l : List Dw} {d : Dw} (h : l.all dOk = true) (hd : dOk d = true) : prQ (l ++ [d]) = prQ l * mkRat d.o d.w.toNat := by
 unfold prQ
 rw [prN_snoc, prD_snoc, Rat.mkRat_mul_mkRat]
 have := (pr_pos l h).2
 simp [dOk] at hd
 rw [Int.toNat_mul (by omega) (by omega)]
theorem prQ_pos {l : List Dw} (h : l.all dOk = true) : 0 < prQ l := by
 obtain ⟨a, b⟩ := pr_pos l h
 unfold prQ
 exact (mkRat_pos (by omega)).2 a
theorem prQ_fits {l : List Dw} (h : l.all dOk = true) (hk : ∀ d ∈ l, d.Ok) (hl : l.length ≤ 12) : Fits (prQ l) 25 := by
 obtain ⟨a, b⟩ := pr_len l h hk
 obtain ⟨pa, pb⟩ := pr_pos l h
 unfold prQ
 refine fits_mkRat' ?_ ?_ (by omega)
 ·have : ((prN l).natAbs : Int) = prN l := by omega
  rw [this]; omega
 ·have : (((prD l).toNat : Nat) : Int) = prD l := by omega
  rw [this]; omega
def sqQ (r : Rn) : Rat := r.w.q * r.w.q / prQ r.ds
theorem fits_divW {a b : Rat} {k l : Nat} (ha : Fits a k) (hb : Fits b l) (h1 : 1 ≤ k) : Fits (a / b) (k + l) := by
 by_cases h0 : b = 0
 ·subst h0
  have : a / 0 = 0 := by rw [Rat.div_def, Rat.inv_zero, Rat.mul_zero]
  rw [this]; exact fits_zero.mono (by omega)
 have e := Raw.div_q (rawOf_ok ha) (rawOf_ok hb) (by rw [rawOf_q]; exact h0)
 rw [rawOf_q, rawOf_q] at e
 rw [e]
 have na := val_nonneg (rawOf_ok ha).dn
 have nb := val_nonneg (rawOf_ok ha).dd
 have nc := val_nonneg (rawOf_ok hb).dn
 have nd := val_nonneg (rawOf_ok hb).dd
 have l1 := (rawOf_ok ha).ln
 have l2 := (rawOf_ok ha).ld
 have l3 := (rawOf_ok hb).ln
 have l4 := (rawOf_ok hb).ld
 have d1 := digs_mul_val (rawOf_ok ha).dn (rawOf_ok hb).dd
 have d2 := digs_mul_val (rawOf_ok ha).dd (rawOf_ok hb).dn
 have m1 := Int.mul_nonneg na nd
 have m2 := Int.mul_nonneg nb nc
 have := fits_mkRat (neg := ((rawOf a).neg != (rawOf b).neg)) (n := (val (rawOf a).num * val (rawOf b).den).toNat) (d := (val (rawOf a).den * val (rawOf b).num).toNat) (k := k + l) (by rw [natCast_toNat m1]; omega) (by rw [natCast_toNat m2]; omega) (by omega)
 rwa [natCast_toNat m1] at this
theorem sq_fits {r : Rn} (ho : r.Ok) (h : rOk r = true) : Fits (sqQ r) 41 := by
 have hw := Raw.fits ho.w (by omega)
 exact (fits_divW (fits_mul hw hw (by omega)) (prQ_fits h ho.d ho.l) (by omega)).mono (by omega)
def secQ (l : List Rn) (v : Tr) : Rat := sumBy (fun r => if r.k = 0 ∧ r.v = v then sqQ r else 0) l
def accR (l : List Rn) : List Rn := l.filter fun r => decide (r.k = 0) && decide (0 < r.w.q)
def sumW (l : List Rn) : Rat := sumBy (fun r => r.w.q) l
def sumS2 (l : List Rn) : Rat := sumBy sqQ l
theorem sumR_fits {f : Rn → Rat} {l : List Rn} {k : Nat} (h : ∀ r ∈ l, Fits (f r) k) (hl : l.length ≤ 60) : Fits (sumBy f l) (1 + 60 * (k + 1)) := by
 refine (sumBy_fits l h).mono ?_
 have := Nat.mul_le_mul_right (k + 1) hl
 omega
abbrev zeroW : V := .agg [.bool false, .dat [], .dat []]
def prV (r : Rn) : V := if rOk r then .tup [ratV (prQ r.ds), .int .i64 0] else .tup [zeroW, .int .i64 1]
theorem all_take {l : List Dw} {i : Nat} (h : i < l.length) (ha : (l.take i).all dOk = true) (hd : dOk l[i] = true) : (l.take (i + 1)).all dOk = true := by
 rw [List.take_succ_eq_append_getElem h, List.all_append, ha]; simp [hd]
theorem not_allD {l : List Dw} {i : Nat} (h : i < l.length) (hd : dOk l[i] = false) : l.all dOk = false := by
 rw [List.all_eq_false]; exact ⟨l[i], List.getElem_mem h, by simp [hd]⟩
set_option maxHeartbeats 4000000 in
theorem trace_Prior {r : Rn} (ho : r.Ok) : CallD Tryz.prog F.trace_Prior [.agg (rnC r)] (· = prV r) := by
 refine callD_by F.trace_Prior_ok ?_
 unfold F.trace_Prior_c prV rOk
 have hod := ho.d
 have hol := ho.l
 simp [setOb, List.filter_cons, rnC]
 refine callK_of (nat_Of (n := 1) (by omega) (by omega)) (by simp) ?_
 simp
 refine callK_of (nat_Of (n := 1) (by omega) (by omega)) (by simp) ?_
 simp
 generalize r.ds = l at *
 refine wm_loop (fun g : Nat => (((((((Sl.empty.set 13 (.int .i64 g)).set 12 (.int .i64 l.length)).set 11 (.dat (l.map dwC))).set 5 (nat (digs (prD (l.take g))))).set 4 (nat (digs (prN (l.take g))))).set 2 (.ptr 1 0 0)), [(1, ⟨.own, 3, [[.bool false, .nils, .nils]]⟩)])) (fun g => g ≤ l.length ∧ (l.take g).all dOk = true) (fun g => l.length - g) 0 (by simp) ?_ ?_
 ·refine weak_obs ?_ (by simp) (by repeat (first | exact sin_empty | refine sin_set (by simp [V.within]) ?_)) (by simp [V.within])
  repeat (first | exact sub_empty | refine sub_set (by simp [prN, prD]) ?_)
 rintro i ⟨hi, hall⟩
 by_cases h1 : i < l.length
 ·obtain ⟨⟨o0, o1⟩, w0, w1⟩ := hod _ (List.getElem_mem h1)
  obtain ⟨pa, pb⟩ := pr_pos _ hall
  obtain ⟨la, lb⟩ := pr_len _ hall fun d hd => hod d (List.mem_of_mem_take hd)
  rw [List.length_take] at la lb
  by_cases c1 : l[i].o < 1
  ·have hf : dOk l[i] = false := by simp [dOk]; omega
   have hna := not_allD h1 hf
   simp [h1, dwC, c1, setOb, List.filter_cons]
   exact ⟨l[i], List.getElem_mem h1, hf⟩
  by_cases c2 : l[i].w < l[i].o
  ·have hf : dOk l[i] = false := by simp [dOk]; omega
   have hna := not_allD h1 hf
   simp [h1, dwC, c1, c2, setOb, List.filter_cons]
   exact ⟨l[i], List.getElem_mem h1, hf⟩
  have hd : dOk l[i] = true := by simp [dOk]; omega
  have wo : IntKind.u64.wrap l[i].o = l[i].o := wrapU64 (by omega) (by omega)
  have ww : IntKind.u64.wrap l[i].w = l[i].w := wrapU64 (by omega) (by omega)
  simp [h1, dwC, c1, c2, wo, ww, setOb, List.filter_cons]
  refine callFK_of (nat_Of (n := l[i].o) (by omega) (by omega)) (by simp) ?_
  simp
  have m1 := nat_Mul (a := digs (prN (l.take i))) (b := digs l[i].o) (digs_dig _) (digs_dig _) (by omega) (by have : (digs l[i].o).length ≤ 2 := digs_length_le (by omega); omega)
  rw [val_digs (by omega), val_digs (by omega), ← prN_snoc, ← List.take_succ_eq_append_getElem h1] at m1
  refine callFK_of m1 (by simp) ?_
  simp
  refine callFK_of (nat_Of (n := l[i].w) (by omega) (by omega)) (by simp [ww]) ?_
  simp
  have m2 := nat_Mul (a := digs (prD (l.take i))) (b := digs l[i].w) (digs_dig _) (digs_dig _) (by omega) (by have : (digs l[i].w).length ≤ 2 := digs_length_le (by omega); omega)
  rw [val_digs (by omega), val_digs (by omega), ← prD_snoc, ← List.take_succ_eq_append_getElem h1] at m2
  refine callFK_of m2 (by simp) ?_
  simp
  rw [wrap64 (by omega) (by omega)]
  refine ⟨i + 1, ⟨h1, List.all_eq_true.1 (all_take h1 hall hd)⟩, by dsimp only; omega, ?_⟩
  refine weak_obs ?_ (by simp) (by repeat (first | exact sin_empty | refine sin_set (by simp [V.within]) ?_)) (by simp [V.within])
  repeat (first | exact sub_empty | refine sub_set (by simp) ?_)
 ·have hil : i = l.length := by omega
  subst hil
  rw [List.take_length] at hall
  simp only [List.take_length]
  obtain ⟨pa, pb⟩ := pr_pos _ hall
  obtain ⟨la, lb⟩ := pr_len _ hall hod
  have key := ratio_Of (neg := false) (a := digs (prN l)) (b := digs (prD l)) (digs_dig _) (digs_dig _) (by omega) (by omega)
  rw [val_digs (by omega), val_digs (by omega), if_neg (by omega)] at key
  have hall' : ∀ x ∈ l, dOk x = true := List.all_eq_true.1 hall
  simp [h1, setOb, List.filter_cons]
  refine callK_of key (by simp) ?_
  simp [setOb, List.filter_cons, ratV, raw_v, toD_rawc, sgn, prQ]
  exact hall'
theorem ref02_MakeW {p q : Int} (h0 : 0 ≤ p) (h1 : p < 9223372036854775808) (h2 : 0 < q) (h3 : q < 9223372036854775808) : CallD Tryz.prog F.ref02_Make [.int .i64 p, .int .i64 q] (· = .tup [ratV (mkRat p q.toNat), .int .i64 0]) := by
 refine callD_by F.ref02_Make_ok ?_
 unfold F.ref02_Make_c
 have d2 : ∀ n : Int, n < 9223372036854775808 → (digs n).length ≤ 2 := fun n h => digs_length_le (by omega)
 have a1 : (p.natAbs : Int) = p := by omega
 have a2 : (q.natAbs : Int) = q := by omega
 have e1 : ¬ p < 0 := by omega
 have e2 : ¬ q < 0 := by omega
 have s1 := ref02_size (n := p) (by omega) (by omega)
 have s2 := ref02_size (n := q) (by omega) (by omega)
 rw [a1] at s1
 rw [a2] at s2
 simp [setOb, List.filter_cons]
 refine callK_of s1 (by simp) ?_
 simp
 refine callK_of s2 (by simp) ?_
 simp [e1, e2]
 have key := ref02_Of (neg := false) (a := digs p) (b := digs q) (digs_dig _) (digs_dig _) (by have := d2 p h1; omega) (by have := d2 q h3; omega)
 rw [val_digs h0, val_digs (by omega), if_neg (by omega)] at key
 refine callK_of key (by simp) ?_
 simp [setOb, List.filter_cons, toD_rawc, ratV, raw_v, sgn]
theorem mk_fits {d : Dw} (h : dOk d = true) (hk : d.Ok) : Fits (mkRat d.o d.w.toNat) 2 := by
 simp [dOk] at h
 obtain ⟨⟨_, o1⟩, _, w1⟩ := hk
 refine fits_mkRat' ?_ ?_ (by omega)
 ·have : (d.o.natAbs : Int) = d.o := by omega
  rw [this]; exact digs_length_le (by omega)
 ·have : ((d.w.toNat : Nat) : Int) = d.w := by omega
  rw [this]; exact digs_length_le (by omega)
set_option maxHeartbeats 4000000 in
theorem ref15_Prior {r : Rn} (ho : r.Ok) : CallD Tryz.prog F.ref15_Prior [.agg (rnC r)] (· = prV r) := by
 refine callD_by F.ref15_Prior_ok ?_
 unfold F.ref15_Prior_c prV rOk
 have hod := ho.d
 have hol := ho.l
 simp [setOb, List.filter_cons, rnC]
 refine callK_of ref02_One (by simp) ?_
 simp [ratV, raw_v, setOb, List.filter_cons]
 obtain ⟨k, n, x, y, vl, l, w⟩ := r
 dsimp only at hod hol ⊢
 refine wm_loop (fun g : Nat => ((((Sl.empty.set 5 (.int .i64 g)).set 4 (.ptr 2 0 0)).set 2 (.ptr 1 0 0)).set 1 (.ptr 0 0 0), [(2, ⟨.own, 3, [(rawOf (prQ (l.take g))).c]⟩), (1, ⟨.own, 3, [[.bool false, .nils, .nils]]⟩), (0, ⟨.own, 9, [rnC ⟨k, n, x, y, vl, l, w⟩]⟩)])) (fun g => g ≤ l.length ∧ (l.take g).all dOk = true) (fun g => l.length - g) 0 (by simp) ?_ ?_
 ·refine weak_obs ?_ (by simp [rnC, prQ_nil]) (by repeat (first | exact sin_empty | refine sin_set (by simp [V.within]) ?_)) ?_
  ·repeat (first | exact sub_empty | refine sub_set (by simp) ?_)
  ·intro p hp r hr z hz
   simp at hp
   rcases hp with rfl | rfl | rfl
   ·simp at hr; subst hr; exact rawc_within _ z hz
   ·simp at hr; subst hr; simp at hz; rcases hz with rfl | rfl <;> simp [V.within]
   ·simp at hr; subst hr; exact rnC_within _ _ z hz
 rintro i ⟨hi, hall⟩
 by_cases h1 : i < l.length
 ·obtain ⟨⟨o0, o1⟩, w0, w1⟩ := hod _ (List.getElem_mem h1)
  by_cases c1 : l[i].o < 1
  ·have hf : dOk l[i] = false := by simp [dOk]; omega
   simp [h1, rnC, dwC, c1, setOb, List.filter_cons]
   exact ⟨l[i], List.getElem_mem h1, hf⟩
  by_cases c2 : l[i].w < l[i].o
  ·have hf : dOk l[i] = false := by simp [dOk]; omega
   simp [h1, rnC, dwC, c1, c2, setOb, List.filter_cons]
   exact ⟨l[i], List.getElem_mem h1, hf⟩
  have hd : dOk l[i] = true := by simp [dOk]; omega
  have hfq := prQ_fits hall (fun d hd => hod d (List.mem_of_mem_take hd)) (by rw [List.length_take]; omega)
  simp [h1, rnC, dwC, c1, c2, setOb, List.filter_cons]
  refine callK_of (ref02_MakeW (p := l[i].o) (q := l[i].w) (by omega) (by omega) (by omega) (by omega)) (by simp) ?_
  simp [ratV, raw_v, setOb, List.filter_cons]
  refine callK_of (ref02_Mul (rawOf_ok (hfq.mono (by omega))) (rawOf_ok ((mk_fits hd (hod _ (List.getElem_mem h1))).mono (by omega)))) (by simp [toD_rawc, raw_v]) ?_
  rw [rawOf_q, rawOf_q]
  simp [ratV, raw_v, setOb, List.filter_cons]
  rw [wrap64 (by omega) (by omega)]
  refine ⟨i + 1, ⟨h1, List.all_eq_true.1 (all_take h1 hall hd)⟩, by dsimp only; omega, ?_⟩
  have e : prQ (l.take (i + 1)) = prQ (l.take i) * mkRat l[i].o l[i].w.toNat := by
   rw [List.take_succ_eq_append_getElem h1, prQ_snoc hall hd]
  refine weak_obs ?_ (by simp [rnC, e]) (by repeat (first | exact sin_empty | refine sin_set (by simp [V.within]) ?_)) ?_
  ·repeat (first | exact sub_empty | refine sub_set (by simp) ?_)
  ·intro p hp r hr z hz
   simp at hp
   rcases hp with rfl | rfl | rfl
   ·simp at hr; subst hr; exact rawc_within _ z hz
   ·simp at hr; subst hr; simp at hz; rcases hz with rfl | rfl <;> simp [V.within]
   ·simp at hr; subst hr; exact rnC_within ⟨k, n, x, y, vl, l, w⟩ _ z hz
 ·have hil : i = l.length := by omega
  subst hil
  rw [List.take_length] at hall
  simp only [List.take_length]
  have hall' : ∀ x ∈ l, dOk x = true := List.all_eq_true.1 hall
  simp [h1, rnC, setOb, List.filter_cons, ratV, raw_v, toD_rawc]
  exact hall'
@[simp] theorem rnC_rchs (σ : Sto) (n : Nat) (r : Rn) : (rnC r).flatMap (rch σ n) = [] := by cases n <;> rfl
@[simp] theorem rnC_take9 (r : Rn) : (rnC r).take 9 = rnC r := (rfl)
@[simp] theorem rnC_drop6 (r : Rn) : (rnC r).drop 6 = r.w.c := (rfl)
@[simp] theorem rnC_drop23 (r : Rn) : ((rnC r).drop 2).take 3 = r.v.cells := by
  rw [← rnC_v]; rfl
@[simp] theorem rnC_get0 (r : Rn) : (rnC r)[0]? = some (.int .i64 r.k) := (rfl)
theorem weigh_wrong {r : Rn} (ho : r.Ok) : CallD Tryz.prog F.weigh_wrong [.agg (rnC r)] (· = .bool (!rOk r)) := by
 refine callD_by F.weigh_wrong_ok ?_
 unfold F.weigh_wrong_c
 simp [setOb, List.filter_cons]
 refine callK_of (trace_Prior ho) (by simp [rnC_toD]) ?_
 unfold prV
 cases rOk r <;> simp [setOb, List.filter_cons, ratV, raw_v]
theorem index_Run {l : List Rn} (hl : l.length ≤ 60) (ho : ∀ r ∈ l, r.Ok) : CallD Tryz.prog F.slices_IndexFunc_Run_Run [rl l, .clo F.weigh_wrong []] (fun r => ∃ i : Int, r = .int .i64 i ∧ (0 ≤ i ↔ (l.any fun r => !rOk r) = true)) := by
 refine callD_by F.slices_IndexFunc_Run_Run_ok ?_
 unfold F.slices_IndexFunc_Run_Run_c
 simp
 refine wm_loop (fun g : Nat => (((((Sl.empty.set 8 (.int .i64 g)).set 7 (.int .i64 l.length)).set 1 (.clo F.weigh_wrong [])).set 0 (rl l)), [])) (fun g => g ≤ l.length ∧ ∀ u ∈ l.take g, rOk u = true) (fun g => l.length - g) 0 (by simp) ?_ ?_
 ·exact weak_p (by repeat (first | exact sub_empty | refine sub_set (by simp) ?_)) (by repeat (first | exact sin_empty | refine sin_set (by simp [V.within]) ?_))
 rintro i ⟨hi, hall⟩
 by_cases h1 : i < l.length
 ·simp [h1]
  refine ⟨_, _, ⟨rfl, rfl⟩, callK_of (weigh_wrong (ho _ (List.getElem_mem h1))) (by simp [rnC_toD]) ?_⟩
  cases c : rOk l[i] with
  | true =>
    simp
    rw [wrap64 (by omega) (by omega)]
    refine ⟨i + 1, ⟨h1, fun u hu => ?_⟩, by dsimp only; omega, ?_⟩
    ·rw [List.take_succ_eq_append_getElem h1] at hu
     rcases List.mem_append.1 hu with hu | hu
     ·exact hall u hu
     ·simp at hu; subst hu; exact c
    ·exact weak_p (by repeat (first | exact sub_empty | refine sub_set (by simp) ?_)) (by repeat (first | exact sin_empty | refine sin_set (by simp [V.within]) ?_))
  | false =>
    simp
    exact ⟨l[i], List.getElem_mem h1, c⟩
 ·have hik : i = l.length := by omega
  subst hik
  rw [List.take_length] at hall
  simp [h1]
  exact hall
theorem contains_Run {l : List Rn} (hl : l.length ≤ 60) (ho : ∀ r ∈ l, r.Ok) : CallD Tryz.prog F.slices_ContainsFunc_Run_Run [rl l, .clo F.weigh_wrong []] (· = .bool (!l.all rOk)) := by
 refine callD_by F.slices_ContainsFunc_Run_Run_ok ?_
 unfold F.slices_ContainsFunc_Run_Run_c
 simp
 refine callK_rel (index_Run hl ho) (by simp; rfl) ?_
 rintro r ⟨i, rfl, hi⟩
 by_cases c : 0 ≤ i
 ·have := hi.1 c
  simp [c]
  simpa using this
 ·have : ¬ (l.any fun r => !rOk r) = true := fun h => c (hi.2 h)
  simp [c]
  simpa using this
theorem ref31_priors {l : List Rn} (hl : l.length ≤ 60) (ho : ∀ r ∈ l, r.Ok) : CallD Tryz.prog F.ref31_priors [rl l] (· = .bool (l.all rOk)) := by
 refine callD_by F.ref31_priors_ok ?_
 unfold F.ref31_priors_c
 simp
 refine wm_loop (fun g : Nat => ((((Sl.empty.set 9 (.int .i64 g)).set 8 (.int .i64 l.length)).set 7 (rl l)), [])) (fun g => g ≤ l.length ∧ ∀ u ∈ l.take g, rOk u = true) (fun g => l.length - g) 0 (by simp) ?_ ?_
 ·exact weak_p (by repeat (first | exact sub_empty | refine sub_set (by simp) ?_)) (by repeat (first | exact sin_empty | refine sin_set (by simp [V.within]) ?_))
 rintro i ⟨hi, hall⟩
 by_cases h1 : i < l.length
 ·simp [h1, setOb, List.filter_cons]
  refine callK_of (ref15_Prior (ho _ (List.getElem_mem h1))) (by simp [rnC_toD]) ?_
  unfold prV
  cases c : rOk l[i] with
  | true =>
    simp [setOb, List.filter_cons, ratV, raw_v]
    rw [wrap64 (by omega) (by omega)]
    refine ⟨i + 1, ⟨h1, fun u hu => ?_⟩, by dsimp only; omega, ?_⟩
    ·rw [List.take_succ_eq_append_getElem h1] at hu
     rcases List.mem_append.1 hu with hu | hu
     ·exact hall u hu
     ·simp at hu; subst hu; exact c
    ·exact weak_p (by repeat (first | exact sub_empty | refine sub_set (by simp) ?_)) (by repeat (first | exact sin_empty | refine sin_set (by simp [V.within]) ?_))
  | false =>
    simp [setOb, List.filter_cons]
    exact ⟨l[i], List.getElem_mem h1, c⟩
 ·have hik : i = l.length := by omega
  subst hik
  rw [List.take_length] at hall
  simp [h1]
  exact hall
theorem weigh_square {r : Rn} (ho : r.Ok) (hr : rOk r = true) : CallD Tryz.prog F.weigh_square [.agg (rnC r)] (· = ratV (sqQ r)) := by
 have hw := Raw.fits ho.w (by omega)
 have hp := prQ_fits hr ho.d ho.l
 have p0 := prQ_pos hr
 have pn : prQ r.ds ≠ 0 := by grind
 have w31 : r.w.Ok (2 ^ 31) := ho.w.mono (by omega)
 refine callD_by F.weigh_square_ok ?_
 unfold F.weigh_square_c
 simp [setOb, List.filter_cons]
 refine callK_of (trace_Prior ho) (by simp [rnC_toD]) ?_
 rw [prV, if_pos hr]
 simp [setOb, List.filter_cons, ratV, raw_v]
 refine callFK_of (ratio_Mul w31 w31) (by simp [toD_rawc, raw_v]) ?_
 simp [ratV, raw_v]
 refine callFK_of (ratio_Div (rawOf_ok ((fits_mul hw hw (by omega)).mono (by omega))) (rawOf_ok (hp.mono (by omega)))) (by simp [toD_rawc, raw_v]) ?_
 rw [rawOf_q, rawOf_q, divR, if_neg pn]
 simp [setOb, List.filter_cons, ratV, raw_v, toD_rawc, sqQ]
theorem ref31_square {r : Rn} (ho : r.Ok) (hr : rOk r = true) : CallD Tryz.prog F.ref31_square [.agg (rnC r)] (· = ratV (sqQ r)) := by
 have hw := Raw.fits ho.w (by omega)
 have hp := prQ_fits hr ho.d ho.l
 have p0 := prQ_pos hr
 have pn : prQ r.ds ≠ 0 := by grind
 have w31 : r.w.Ok (2 ^ 31) := ho.w.mono (by omega)
 refine callD_by F.ref31_square_ok ?_
 unfold F.ref31_square_c
 simp [setOb, List.filter_cons]
 refine callK_of (ref15_Prior ho) (by simp [rnC_toD]) ?_
 rw [prV, if_pos hr]
 simp [setOb, List.filter_cons, ratV, raw_v]
 refine callFK_of (ref02_Mul w31 w31) (by simp [toD_rawc, raw_v]) ?_
 simp [ratV, raw_v]
 refine callFK_of (ref02_Div (rawOf_ok ((fits_mul hw hw (by omega)).mono (by omega))) (rawOf_ok (hp.mono (by omega)))) (by simp [toD_rawc, raw_v]) ?_
 rw [rawOf_q, rawOf_q, divR, if_neg pn]
 simp [setOb, List.filter_cons, ratV, raw_v, toD_rawc, sqQ]
end Go.Proofs.YtkockkfmjmheeaaGreat
