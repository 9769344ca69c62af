import Derived.Test.YtmjgehbpcchjpaaGreatDoorHZ
import Derived.Test.YtmjgehbpcchjpaaGreatDoorHK
import Derived.Test.YtmjgehbpcchjpaaGreatDoorHL
import Derived.Test.YtmjgehbpcchjpaaGreatDoorGL
import Derived.Test.YtmjgehbpcchjpaaGreatDoorHM
import Derived.Test.YtmjgehbpcchjpaaGreatDoorHR
namespace Go.Proofs.YtmjgehbpcchjpaaGreatDoor.F
open Go Go.Proofs Go.Proofs.YtmjgehbpcchjpaaGreatDoor.E Go.Proofs.YtmjgehbpcchjpaaGreatDoor.Q
abbrev ratio_size : Nat := 161
def ratio_size_c : MFn := ⟨12,(.seq (r [o 2 (.mv (.c .nils))] [0]) (.seq (.seq (r [o 3 (.mv (.t 0)),o 4 (.bin .lss (.t 3) (i 0))] [0,4]) (.cond (.t 4) (.seq (r [o 5 (.mv (.t 0)),o 6 (.cvt .u64 (.t 5)),o 7 (.un .neg (.t 6)),o 8 (.call 112 [(.t 7)]),o 2 (.mv (.t 8))] [2]) .ret) .skip)) (.seq (r [o 9 (.mv (.t 0)),o 10 (.cvt .u64 (.t 9)),o 11 (.call 112 [(.t 10)]),o 2 (.mv (.t 11))] [2]) .ret))),[.t 2]⟩
theorem ratio_size_ok : cFn Tryz.prog (kps [[0],[0,4],[2],[2]]) [] 161 = some ratio_size_c := by kernel_rfl
abbrev ratio_Make : Nat := 124
def ratio_Make_c : MFn := ⟨18,(.seq (r [o 4 (.alloc zR),o 5 (.mv (i 0))] [0,1,4]) (.seq (r [o 6 (.mv (.t 0)),o 7 (.bin .lss (.t 6) (i 0)),o 8 (.mv (.t 1)),o 9 (.bin .lss (.t 8) (i 0)),o 10 (.binB .neq (.t 7) (.t 9)),o 11 (.mv (.t 0)),o 12 (.call 161 [(.t 11)]),o 13 (.mv (.t 1)),o 14 (.call 161 [(.t 13)]),o 15 (.call 156 [(.t 10),(.t 12),(.t 14)]),o 16 (.ext (.t 15) 0),o 17 (.ext (.t 15) 1),z (.st 3 (.t 4) (.t 16)),o 5 (.mv (.t 17))] [4,5]) .ret)),[.cell 4 (some 3),.t 5]⟩
theorem ratio_Make_ok : cFn Tryz.prog (kps [[0,1,4],[4,5]]) [] 124 = some ratio_Make_c := by kernel_rfl
abbrev weights_Mix : Nat := 77
def weights_Mix_c : MFn := ⟨67,(.seq (r [o 4 (.alloc zM),o 5 (.mv (i 0))] [0,1,4]) (.seq (r [o 6 (.mv (i 0))] [0,1,4,6]) (.seq (.seq (r [o 14 (.mv (.t 0)),o 15 (.lenS (.t 14)),o 16 (.mv (.t 1)),o 17 (.lenS (.t 16)),o 18 (.bin .neq (.t 15) (.t 17)),o 19 (.mv (.t 18)),n 20 19 (.mv (.t 0)),n 21 19 (.lenS (.t 20)),n 22 19 (.bin .eql (.t 21) (i 0)),o 23 (.pick (.t 19) (.c (.bool true)) (.t 22))] [0,1,4,6,23]) (.cond (.t 23) (.seq (r [o 24 (.build zM []),z (.st 16 (.t 4) (.t 24)),o 5 (.mv (i 1))] [4,5]) .ret) .skip)) (.seq (.seq (r [o 25 (.mv (.t 1)),o 26 (.lenS (.t 25)),o 27 (.mv (i 0))] [0,1,4,6,25,26,27]) (.block 0 (.loop (.seq (r [o 28 (.bin .lss (.t 27) (.t 26))] [0,1,4,6,25,26,27,28]) (.seq (.cond (.t 28) .skip (.exit 0)) (.seq (.block 1 (.seq (r [o 29 (.ixA 1 (.t 25) (.t 27)),o 30 (.ld none (.t 29)),o 8 (.mv (.t 30))] [0,1,4,6,8,25,26,27]) (.seq (.seq (r [o 31 (.mv (.t 8)),o 32 (.bin .lss (.t 31) (i 1)),o 33 (.mv (.t 32)),n 34 33 (.mv (.t 8)),n 35 33 (.bin .gtr (.t 34) (i 1000)),o 36 (.pick (.t 33) (.c (.bool true)) (.t 35))] [0,1,4,6,8,25,26,27,36]) (.cond (.t 36) (.seq (r [o 37 (.build zM []),z (.st 16 (.t 4) (.t 37)),o 5 (.mv (i 1))] [4,5]) .ret) .skip)) (r [o 38 (.mv (.t 6)),o 39 (.mv (.t 8)),o 40 (.bin .add (.t 38) (.t 39)),o 6 (.mv (.t 40))] [0,1,4,6,25,26,27])))) (r [o 41 (.bin .add (.t 27) (i 1)),o 27 (.mv (.t 41))] [0,1,4,6,25,26,27]))))))) (.seq (r [o 42 (.call 105 []),o 9 (.alloc zM),z (.st 16 (.t 9) (.t 42))] [0,1,4,6,9]) (.seq (.seq (r [o 43 (.mv (.t 0)),o 44 (.lenS (.t 43)),o 45 (.mv (i 0))] [1,4,6,9,43,44,45]) (.block 2 (.loop (.seq (r [o 46 (.bin .lss (.t 45) (.t 44))] [1,4,6,9,43,44,45,46]) (.seq (.cond (.t 46) .skip (.exit 2)) (.seq (.block 3 (.seq (r [o 47 (.mv (.t 45)),o 48 (.ixA 16 (.t 43) (.t 45)),o 49 (.ld (some 16) (.t 48)),o 11 (.alloc zM),o 10 (.mv (.t 47)),z (.st 16 (.t 11) (.t 49))] [1,4,6,9,10,11,43,44,45]) (.seq (r [o 51 (.mv (.t 1)),o 52 (.mv (.t 10)),o 53 (.ixA 1 (.t 51) (.t 52)),o 54 (.ld none (.t 53)),o 55 (.mv (.t 6)),o 56 (.call 124 [(.t 54),(.t 55)]),o 50 (.mv (.t 56)),o 57 (.ext (.t 50) 0),o 58 (.ext (.t 50) 1),o 12 (.alloc zR),z (.st 3 (.t 12) (.t 57)),o 13 (.mv (.t 58))] [1,4,6,9,11,12,43,44,45]) (r [o 59 (.ld (some 16) (.t 9)),o 60 (.ld (some 16) (.t 11)),o 61 (.ld (some 3) (.t 12)),o 62 (.callF 83 [(.t 60),(.t 61)]),o 63 (.callXF 127 [(.t 59),(.t 62)]),z (.st 16 (.t 9) (.t 63))] [1,4,6,9,43,44,45])))) (r [o 64 (.bin .add (.t 45) (i 1)),o 45 (.mv (.t 64))] [1,4,6,9,43,44,45]))))))) (.seq (r [o 65 (.ld (some 16) (.t 9)),o 66 (.call 128 [(.t 65)]),z (.st 16 (.t 4) (.t 66)),o 5 (.mv (i 0))] [4,5]) .ret))))))),[.cell 4 (some 16),.t 5]⟩
theorem weights_Mix_ok : cFn Tryz.prog (kps [[0,1,4],[0,1,4,6],[0,1,4,6,23],[4,5],[0,1,4,6,25,26,27],[0,1,4,6,25,26,27,28],[0,1,4,6,8,25,26,27],[0,1,4,6,8,25,26,27,36],[4,5],[0,1,4,6,25,26,27],[0,1,4,6,25,26,27],[0,1,4,6,9],[1,4,6,9,43,44,45],[1,4,6,9,43,44,45,46],[1,4,6,9,10,11,43,44,45],[1,4,6,9,11,12,43,44,45],[1,4,6,9,43,44,45],[1,4,6,9,43,44,45],[4,5]]) [1280016] 77 = some weights_Mix_c := by kernel_rfl
abbrev mass_Mix : Nat := 17
def mass_Mix_c : MFn := ⟨20,(.seq (r [o 4 (.alloc zM),o 5 (.mv (i 0))] [0,1,4]) (.seq (r [o 9 (.mv (.t 0)),o 10 (.mv (.t 1)),o 11 (.call 77 [(.t 9),(.t 10)]),o 8 (.mv (.t 11)),o 12 (.ext (.t 8) 0),o 13 (.ext (.t 8) 1),o 6 (.alloc zM),z (.st 16 (.t 6) (.t 12)),o 7 (.mv (.t 13))] [4,6,7]) (.seq (.seq (r [o 14 (.mv (.t 7)),o 15 (.bin .neq (.t 14) (i 0))] [4,6,7,15]) (.cond (.t 15) (.seq (r [o 16 (.build zM []),o 17 (.mv (.t 7)),z (.st 16 (.t 4) (.t 16)),o 5 (.mv (.t 17))] [4,5]) .ret) .skip)) (.seq (r [o 18 (.ld (some 16) (.t 6)),o 19 (.call 78 [(.t 18)]),z (.st 16 (.t 4) (.t 19)),o 5 (.mv (i 0))] [4,5]) .ret)))),[.cell 4 (some 16),.t 5]⟩
theorem mass_Mix_ok : cFn Tryz.prog (kps [[0,1,4],[4,6,7],[4,6,7,15],[4,5],[4,5]]) [] 17 = some mass_Mix_c := by kernel_rfl
end Go.Proofs.YtmjgehbpcchjpaaGreatDoor.F

namespace Go.Proofs.YtmjgehbpcchjpaaGreatDoor
open Go Go.Proofs Go.Proofs.YtmjgehbpcchjpaaGreatDoor.E
set_option linter.unusedSimpArgs false
set_option linter.unusedVariables false
theorem ratio_size {n : Int} (h0 : 0 ≤ n) (h1 : n < 4611686018427387904) : CallD Tryz.prog F.ratio_size [.int .i64 n] (· = nat (digs n)) := by
 refine callD_by F.ratio_size_ok ?_
 unfold F.ratio_size_c
 have e1 : ¬ n < 0 := by omega
 have e2 : IntKind.u64.wrap n = n := by unfold IntKind.wrap; simp [IntKind.bits, IntKind.signed]; omega
 simp [e1, e2]
 refine callK_of (nat_Of h0 (by omega)) (by simp) ?_
 simp
theorem ratio_Make {p q : Int} (h0 : 0 ≤ p) (h1 : p < 4611686018427387904) (h2 : 0 < q) (h3 : q < 4611686018427387904) : CallD Tryz.prog F.ratio_Make [.int .i64 p, .int .i64 q] (· = .tup [ratV (mkRat p q.toNat), .int .i64 0]) := by
 refine callD_by F.ratio_Make_ok ?_
 unfold F.ratio_Make_c
 have e1 : ¬ p < 0 := by omega
 have e2 : ¬ q < 0 := by omega
 have d2 : ∀ n : Int, n < 4611686018427387904 → (digs n).length ≤ 2 := fun n h => digs_length_le (by omega)
 simp [e1, e2, setOb, List.filter_cons]
 refine callK_of (ratio_size h0 h1) (by simp) ?_
 simp
 refine callK_of (ratio_size (by omega) h3) (by simp) ?_
 simp
 have key := ratio_Of (neg := false) (a := digs p) (b := digs q) (digs_dig _) (digs_dig _) (by have := d2 p h1; omega) (by have := d2 q h3; omega)
 rw [val_digs h0, val_digs (by omega), if_neg (by omega)] at key
 refine callK_of key (by simp) ?_
 simp [ratV, Raw.v, sgn, setOb, List.filter_cons]
theorem clone_nilX {σ : Sto} (hs : Shut σ) : CallX Tryz.prog F.slices_Clone_Part_Part [.nils] σ (fun v s => v = .nils ∧ s = σ) := by
 refine callX_by F.slices_Clone_Part_Part_ok ?_
 unfold F.slices_Clone_Part_Part_c
 simp
 exact doneX_same (by simp) (by simp; rfl) rfl (Has.refl _) hs (by simp)
set_option maxHeartbeats 8000000 in
theorem weights_comeX : CallX Tryz.prog F.weights_come [.agg zero16] [] (fun v s => v = .agg (.nils :: tailC (rawOf 0) (rawOf 0) (rawOf 0) (rawOf 0) (rawOf 0)) ∧ s = []) := by
 have ad : CallD Tryz.prog F.ratio_Add [r00.v, (rawOf 0).v] (· = ratV 0) := by
  have := add0 (K := 1) (by omega) (x := r00) r00_ok
  rwa [r00_q] at this
 refine callX_by F.weights_come_ok ?_
 unfold F.weights_come_c
 have z : (rawOf 0).v = .agg [.bool false, nat [], nat [1]] := by rw [zero_c]; rfl
 simp [setOb, List.filter_cons, zero16]
 refine callK_X (clone_nilX (shut_cons (shut_cons shut0 (plain_row zero16_in)) (plain_row zero16_in))) ?_
 rintro r s ⟨rfl, rfl⟩
 simp
 refine callK_of sort_none (by simp) ?_
 simp
 refine callFK_of ratio_Zero (by simp) ?_
 simp [ratV, z]
 refine callFK_of ad (by simp [zero_c, Raw.v, r00]) ?_
 simp [ratV]
 refine callFK_of ratio_Zero (by simp) ?_
 simp [ratV, z]
 refine callFK_of ad (by simp [zero_c, Raw.v, r00]) ?_
 simp [ratV, Raw.v, setOb, List.filter_cons]
 refine wm_loop (fun g : Nat => (((((Sl.empty.set 23 (.int .i64 g)).set 4 (.ptr 2 0 0)).set 3 .nils).set 2 (.ptr 1 0 0)).set 1 (.ptr 0 0 0),
  [(2, ⟨.own, 16, [.nils :: tailG (rawOf 0) (rawOf 0) (rawOf 0) (rawOf 0) (rawOf 0) g]⟩), (1, ⟨.own, 16, [zero16]⟩), (0, ⟨.own, 16, [zero16]⟩)]))
  (fun g => g ≤ 3) (fun g => 3 - g) 0 (by omega) ?_ ?_
 ·refine weak_gen ?_ ?_ (by simp) ?_ ?_
  ·repeat (first | exact sub_empty | refine sub_set (by simp) ?_)
  ·intro o x ho
   simpa [zero_c, tailG, zero16, msC, tailC] using ho
  ·repeat (first | exact sin_empty | refine sin_set (by simp [V.within, E.look]) ?_)
  ·refine shut_cons (shut_cons (shut_cons shut0 (plain_row zero16_in)) (plain_row zero16_in)) (plain_row (tailG_in _ _ _ _ _ _))
 intro g hg
 by_cases c : g < 3
 ·have hg3 : g = 0 ∨ g = 1 ∨ g = 2 := by omega
  rcases hg3 with rfl | rfl | rfl
  ·simp [tailG, msC, tailC, zero16]
   refine callFK_of ratio_Zero (by simp) ?_
   simp [ratV, z]
   refine callFK_of ad (by simp [zero_c, Raw.v, r00]) ?_
   simp [ratV, Raw.v, setOb, List.filter_cons]
   rw [wrap64 (by omega) (by omega)]
   refine ⟨1, by omega, by dsimp only; omega, ?_⟩
   refine weak_gen ?_ ?_ (by simp) ?_ (shut_cons (shut_cons (shut_cons shut0 (plain_row (by simp [V.within]))) (plain_row (by simp [V.within]))) (plain_row (by simp [V.within])))
   ·repeat (first | exact sub_empty | refine sub_set (by simp) ?_)
   ·intro o x ho
    simpa [zero_c, tailG, zero16, msC, tailC] using ho
   ·repeat (first | exact sin_empty | refine sin_set (by simp [V.within, E.look]) ?_)
  ·simp [tailG, msC, tailC, zero16]
   refine callFK_of ratio_Zero (by simp) ?_
   simp [ratV, z]
   refine callFK_of ad (by simp [zero_c, Raw.v, r00]) ?_
   simp [ratV, Raw.v, setOb, List.filter_cons]
   rw [wrap64 (by omega) (by omega)]
   refine ⟨2, by omega, by dsimp only; omega, ?_⟩
   refine weak_gen ?_ ?_ (by simp) ?_ (shut_cons (shut_cons (shut_cons shut0 (plain_row (by simp [V.within]))) (plain_row (by simp [V.within]))) (plain_row (by simp [V.within])))
   ·repeat (first | exact sub_empty | refine sub_set (by simp) ?_)
   ·intro o x ho
    simpa [zero_c, tailG, zero16, msC, tailC] using ho
   ·repeat (first | exact sin_empty | refine sin_set (by simp [V.within, E.look]) ?_)
  ·simp [tailG, msC, tailC, zero16]
   refine callFK_of ratio_Zero (by simp) ?_
   simp [ratV, z]
   refine callFK_of ad (by simp [zero_c, Raw.v, r00]) ?_
   simp [ratV, Raw.v, setOb, List.filter_cons]
   rw [wrap64 (by omega) (by omega)]
   refine ⟨3, by omega, by dsimp only; omega, ?_⟩
   refine weak_gen ?_ ?_ (by simp) ?_ (shut_cons (shut_cons (shut_cons shut0 (plain_row (by simp [V.within]))) (plain_row (by simp [V.within]))) (plain_row (by simp [V.within])))
   ·repeat (first | exact sub_empty | refine sub_set (by simp) ?_)
   ·intro o x ho
    simpa [zero_c, tailG, zero16, msC, tailC] using ho
   ·repeat (first | exact sin_empty | refine sin_set (by simp [V.within, E.look]) ?_)
 have hg3 : g = 3 := by omega
 subst hg3
 simp [tailG]
 refine wm_loop (fun g : Nat => ((((Sl.empty.set 6 (.int .i64 0)).set 4 (.ptr 2 0 0)).set 3 .nils).set 2 (.ptr 1 0 0),
  [(2, ⟨.own, 16, [.nils :: tailC (rawOf 0) (rawOf 0) (rawOf 0) (rawOf 0) (rawOf 0)]⟩), (1, ⟨.own, 16, [zero16]⟩), (0, ⟨.own, 16, [zero16]⟩)])) (fun _ => True) (fun g => g) 0 trivial ?_ ?_
 ·refine weak_gen ?_ ?_ (by simp) ?_ ?_
  ·repeat (first | exact sub_empty | refine sub_set (by simp) ?_)
  ·intro o x ho
   simpa [zero_c, tailG, zero16, msC, tailC] using ho
  ·repeat (first | exact sin_empty | refine sin_set (by simp [V.within, E.look]) ?_)
  ·refine shut_cons (shut_cons (shut_cons shut0 (plain_row zero16_in)) (plain_row zero16_in)) (plain_row (by
    intro y hy f
    simp only [List.mem_cons] at hy
    rcases hy with rfl | hy
    ·simp [V.within]
    ·exact tail_in _ _ _ _ _ y hy f))
 rintro g -
 simp [tailC, zero16, setOb, List.filter_cons]
 exact doneX_gen (r := .agg (.nils :: tailC (rawOf 0) (rawOf 0) (rawOf 0) (rawOf 0) (rawOf 0))) (l := [.agg (.nils :: tailC (rawOf 0) (rawOf 0) (rawOf 0) (rawOf 0) (rawOf 0))]) (σ1 := []) (by simp) (by simp [tailC]) rfl (fun o x h => by simp [E.look] at h) (by simp) shut0 (by simp [tailC, V.within]) ⟨by simp [tailC], rfl⟩
open Go.RowKit in
/-- A call over data without objects: from any store of the caller, which stays. -/
theorem callX_data {P : Program} {f : Nat} {vs : List V} {r : V} {σ : Sto} (h : CallX P f vs [] (fun v s => v = r ∧ s = [])) (hv : ∀ y ∈ vs, y.within (fun _ => false) = true) (hr : r.within (fun _ => false) = true) : CallX P f vs σ (fun v s => v = r ∧ s = σ) := by
 refine ⟨h.1, fun w0 base I0 I β w cs hI hargs => ?_⟩
 have hargs2 : ArgsRel I Beta.none cs vs := ⟨hargs.1, fun i c v hc hv' => (hargs.2 i c v hc hv').within (hv v (List.mem_of_getElem? hv')) (fun _ _ h => by simp at h)⟩
 have hinv : Inv w w.heap.size I I Beta.none [] w := ⟨Below.refl _ _, Nat.le_refl _, hI.imm, fun _ _ => rfl, hI.tab, fun o x h => by simp [Beta.none] at h, fun o x h => by simp [E.look] at h, fun o o' x x' k k' h => by simp [E.look] at h⟩
 refine (h.2 w w.heap.size I I Beta.none w cs hinv hargs2).mono ?_
 rintro e w' ⟨rv, I', β', r', σ', he, hJ, hE, hrel, rfl, rfl⟩
 exact ⟨rv, I', β, r', σ, he, hI.later hJ.below hE.imm hJ.imm hJ.old, ⟨hE.imm, fun _ _ h => h⟩, hrel.within hr (fun _ _ h => by simp at h), rfl, rfl⟩
def noneV : V := .agg (.nils :: tailC (rawOf 0) (rawOf 0) (rawOf 0) (rawOf 0) (rawOf 0))
theorem weights_NoneX {σ : Sto} : CallX Tryz.prog F.weights_None [] σ (fun v s => v = noneV ∧ s = σ) := by
 refine callX_data ?_ (by simp) (by simp [noneV, tailC, V.within])
 refine callX_by F.weights_None_ok ?_
 unfold F.weights_None_c
 have l16 : (V.nils :: tailC (rawOf 0) (rawOf 0) (rawOf 0) (rawOf 0) (rawOf 0)).length = 16 := by simp [tailC]
 simp [setOb, List.filter_cons]
 refine callK_X (callX_data weights_comeX (by simp [zero16, V.within]) (by simp [tailC, V.within])) ?_
 rintro r s ⟨rfl, rfl⟩
 simp [setOb, List.filter_cons, tailC]
 exact doneX_gen (r := noneV) (l := [noneV]) (σ1 := []) (by simp) (by simp [noneV, tailC]) rfl (fun o x h => by simp [E.look] at h) (by simp) shut0 (by simp [noneV, tailC, V.within]) ⟨rfl, rfl⟩
def ilV (l : List Int) : V := .dat (l.map fun x => [.int .i64 x])
def isum (l : List Int) : Int := l.foldr (· + ·) 0
theorem isum_take {l : List Int} {i : Nat} (h : i < l.length) : isum (l.take (i + 1)) = isum (l.take i) + l[i] := by
 rw [List.take_succ_eq_append_getElem h]
 generalize l.take i = m
 induction m with
 | nil => simp [isum]
 | cons a m ih =>
   have e1 : isum ((a :: m) ++ [l[i]]) = a + isum (m ++ [l[i]]) := rfl
   have e2 : isum (a :: m) = a + isum m := rfl
   rw [e1, e2, ih]; omega
theorem isum_bound {l : List Int} (h : ∀ x ∈ l, 1 ≤ x ∧ x ≤ 1000) : (l.length : Int) ≤ isum l ∧ isum l ≤ 1000 * l.length := by
 induction l with
 | nil => simp [isum]
 | cons a l ih =>
   have e : isum (a :: l) = a + isum l := rfl
   have h1 := h a (by simp)
   have h2 := ih fun x hx => h x (by simp [hx])
   rw [e]; simp only [List.length_cons]; omega
def mixM (L : List (Ms × Rat)) : Ms :=
 ⟨(L.map fun x => normP (sclP x.1.parts x.2)).flatten, rawOf (sumBy (fun x => x.1.rf.q * x.2) L), rawOf (sumBy (fun x => x.1.lo.q * x.2) L), rawOf (sumBy (fun x => x.1.f0.q * x.2) L), rawOf (sumBy (fun x => x.1.f1.q * x.2) L), rawOf (sumBy (fun x => x.1.f2.q * x.2) L)⟩
theorem mixM_parts {L : List (Ms × Rat)} {i : Nat} (h : i < L.length) : (mixM (L.take (i + 1))).parts = (mixM (L.take i)).parts ++ (normM (sclM L[i].1 L[i].2)).parts := by
 simp only [mixM]
 rw [List.take_succ_eq_append_getElem h, List.map_append, List.flatten_append]
 simp [normM, sclM]
theorem mixM_q {L : List (Ms × Rat)} {i : Nat} (h : i < L.length) :
 rawOf ((mixM (L.take i)).rf.q + (normM (sclM L[i].1 L[i].2)).rf.q) = (mixM (L.take (i + 1))).rf ∧ rawOf ((mixM (L.take i)).lo.q + (normM (sclM L[i].1 L[i].2)).lo.q) = (mixM (L.take (i + 1))).lo ∧
 rawOf ((mixM (L.take i)).f0.q + (normM (sclM L[i].1 L[i].2)).f0.q) = (mixM (L.take (i + 1))).f0 ∧ rawOf ((mixM (L.take i)).f1.q + (normM (sclM L[i].1 L[i].2)).f1.q) = (mixM (L.take (i + 1))).f1 ∧
 rawOf ((mixM (L.take i)).f2.q + (normM (sclM L[i].1 L[i].2)).f2.q) = (mixM (L.take (i + 1))).f2 := by
 have key : ∀ (f : Ms × Rat → Rat), rawOf ((rawOf (sumBy f (L.take i))).q + (rawOf (rawOf (f L[i])).q).q) = rawOf (sumBy f (L.take (i + 1))) := fun f => by
  rw [sumBy_take h, rawOf_q, rawOf_q, rawOf_q]
 exact ⟨key fun x => x.1.rf.q * x.2, key fun x => x.1.lo.q * x.2, key fun x => x.1.f0.q * x.2, key fun x => x.1.f1.q * x.2, key fun x => x.1.f2.q * x.2⟩
structure BJ (A : Ms) (q : Nat) (τ : Sto) : Prop where
 res : E.look τ 0 = some ⟨.own, 16, [zero16]⟩
 out : E.look τ 1 = some ⟨.own, 16, [grown q A.parts.length :: tailC A.rf A.lo A.f0 A.f1 A.f2]⟩
 prt : A.parts ≠ [] → E.look τ q = some (obL A.parts)
 q2 : A.parts ≠ [] → q ≠ 0 ∧ q ≠ 1
 shut : Shut τ
theorem BJ.step {A y A' : Ms} {q : Nat} {τ τ1 : Sto} (I : BJ A q τ) (h1 : ∀ o, o < fresh τ → E.look τ1 o = E.look τ o) (h2 : fresh τ ≤ fresh τ1) (hs : Shut τ1) (hp : A'.parts = A.parts ++ y.parts) :
 BJ A' (gthN τ1 q y.parts) (setOb (gthS τ1 q A.parts y.parts) 1 ⟨.own, 16, [grown (gthN τ1 q y.parts) A'.parts.length :: tailC A'.rf A'.lo A'.f0 A'.f1 A'.f2]⟩) := by
 have f0 := lt_fresh I.res
 have f1 := lt_fresh I.out
 have hq : A.parts ≠ [] → E.look τ1 q = some (obL A.parts) := fun h => by rw [h1 q (lt_fresh (I.prt h))]; exact I.prt h
 refine ⟨?_, ?_, fun h => ?_, fun h => ?_, ?_⟩
 ·rw [look_setOb, if_neg (by omega), gthS_look (fun h => (I.q2 h).1.symm) (by omega), h1 0 f0]; exact I.res
 ·rw [look_setOb, if_pos rfl]
 ·have h' : A.parts ++ y.parts ≠ [] := by rw [← hp]; exact h
  rw [look_setOb, if_neg (gthN_ne (fun h => (I.q2 h).2) h' (by omega)), hp]
  exact gthS_list hq h'
 ·have h' : A.parts ++ y.parts ≠ [] := by rw [← hp]; exact h
  exact ⟨gthN_ne (fun h => (I.q2 h).1) h' (by omega), gthN_ne (fun h => (I.q2 h).2) h' (by omega)⟩
 ·refine shut_sg (gthS_shut hs) fun r hr z hz => ?_
  simp only [List.mem_singleton] at hr; subst hr
  rcases List.mem_cons.1 hz with rfl | hz
  ·by_cases n0 : A'.parts.length = 0
   ·rw [n0, grown_zero]; simp [V.within]
   ·have h' : A.parts ++ y.parts ≠ [] := by rw [← hp]; exact fun h => n0 (by rw [h]; rfl)
    rw [grown_pos n0, within_ref, look_setOb]
    split
    ·rfl
    ·rw [gthS_list hq h']; rfl
  ·exact tail_in _ _ _ _ _ z hz _
def mixL (ms : List Ms) (odds : List Int) (S : Int) (i : Nat) : Sl := ((((((Sl.empty.set 45 (.int .i64 i)).set 44 (.int .i64 ms.length)).set 43 (.dat (ms.map msC))).set 9 (.ptr 1 0 0)).set 6 (.int .i64 S)).set 4 (.ptr 0 0 0)).set 1 (ilV odds)
theorem BJ.weak {A : Ms} {q i : Nat} {τ : Sto} {ms : List Ms} {odds : List Int} {s : Int} {S : Sl} (I : BJ A q τ) (h : Sub (mixL ms odds s i) S) : Weak [] (mixL ms odds s i) τ S τ := by
 refine weak_gen h (Has.refl _) (by simp) ?_ I.shut
 unfold mixL ilV
 have s1 : (E.look τ 0).isSome = true := by rw [I.res]; rfl
 have s2 : (E.look τ 1).isSome = true := by rw [I.out]; rfl
 repeat (first | exact sin_empty | refine sin_set (by first | (simp; done) | (rw [within_ptr]; first | exact s1 | exact s2)) ?_)
def oddsR (odds : List Int) : List Rat := odds.map fun n => mkRat n (isum odds).toNat
def oddsOk (ms : List Ms) (odds : List Int) : Bool := decide (ms.length = odds.length) && !odds.isEmpty && odds.all fun x => decide (1 ≤ x) && decide (x ≤ 1000)
def mixV (ms : List Ms) (odds : List Int) : V := if oddsOk ms odds then .tup [(normM (mixM (ms.zip (oddsR odds)))).v, .int .i64 0] else .tup [ms0.v, .int .i64 1]
structure MixOk (ms : List Ms) (odds : List Int) (J : Nat) : Prop where
 s : ∀ x ∈ ms.zip (oddsR odds), CallD Tryz.prog F.weights_Scale [x.1.v, (rawOf x.2).v] (· = (normM (sclM x.1 x.2)).v) ∧ (normM (sclM x.1 x.2)).Ok (2 ^ 31) ∧ x.1.parts.length ≤ 1000
 A : ∀ i, (mixM ((ms.zip (oddsR odds)).take i)).Ok (2 ^ 31) ∧ (mixM ((ms.zip (oddsR odds)).take i)).parts.length ≤ 1000000
 J1 : 1 ≤ J
 P : ∀ p ∈ (mixM (ms.zip (oddsR odds))).parts, p.w.Ok J
 b : 1 + (mixM (ms.zip (oddsR odds))).parts.length * (J + 1) ≤ 2 ^ 31
set_option maxHeartbeats 8000000 in
theorem weights_Mix {ms : List Ms} {odds : List Int} {J : Nat} (lm : ms.length ≤ 1000) (h1 : odds.length ≤ 1000) (hB : ∀ x ∈ odds, -9223372036854775808 ≤ x ∧ x < 9223372036854775808) (hM : oddsOk ms odds = true → MixOk ms odds J) :
 CallD Tryz.prog F.weights_Mix [.dat (ms.map msC), ilV odds] (· = mixV ms odds) := by
 refine callD_by F.weights_Mix_ok ?_
 unfold F.weights_Mix_c mixV
 by_cases hl : ms.length = odds.length
 case neg =>
  have e1 : ¬ (ms.length : Int) = (odds.length : Int) := by omega
  simp [ilV, hl, e1, oddsOk, ms0, msC, tailC, r00, setOb, List.filter_cons]
 by_cases h0 : odds = []
 ·have e1 : ms = [] := List.length_eq_zero_iff.1 (by rw [hl, h0]; rfl)
  subst h0 e1
  simp [ilV, oddsOk, ms0, msC, tailC, r00, setOb, List.filter_cons]
 simp [ilV, hl, h0, setOb, List.filter_cons]
 have hlen : 0 < odds.length := List.length_pos_iff.2 h0
 refine wm_loop (fun i : Nat => (((((((Sl.empty.set 27 (.int .i64 i)).set 26 (.int .i64 odds.length)).set 25 (ilV odds)).set 6 (.int .i64 (isum (odds.take i)))).set 4 (.ptr 0 0 0)).set 1 (ilV odds)).set 0 (.dat (ms.map msC)), [(0, ⟨.own, 16, [zero16]⟩)]))
  (fun i => i ≤ odds.length ∧ ∀ x ∈ odds.take i, 1 ≤ x ∧ x ≤ 1000) (fun i => odds.length - i) 0 (by simp) ?_ ?_
 ·refine weak_obs ?_ (by simp [zero16]) (by unfold ilV; repeat (first | exact sin_empty | refine sin_set (by simp) ?_)) (by simp [zero16])
  unfold ilV
  repeat (first | exact sub_empty | refine sub_set (by simp [isum]) ?_)
 rintro i ⟨hi, hg⟩
 by_cases hc : i < odds.length
 ·obtain ⟨t1, t2⟩ := isum_bound hg
  have t3 : (odds.take i).length ≤ 1000 := by rw [List.length_take]; omega
  have hst := isum_take hc
  have hb := hB _ (List.getElem_mem hc)
  by_cases g1 : odds[i] < 1
  ·have bad : oddsOk ms odds = false := by
    unfold oddsOk
    have : (odds.all fun x => decide (1 ≤ x) && decide (x ≤ 1000)) = false := by
     rw [List.all_eq_false]
     exact ⟨_, List.getElem_mem hc, by simp; omega⟩
    rw [this, Bool.and_false]
   simp [ilV, hc, g1, bad, zero16, ms0, msC, tailC, r00, setOb, List.filter_cons]
  by_cases g2 : 1000 < odds[i]
  ·have bad : oddsOk ms odds = false := by
    unfold oddsOk
    have : (odds.all fun x => decide (1 ≤ x) && decide (x ≤ 1000)) = false := by
     rw [List.all_eq_false]
     exact ⟨_, List.getElem_mem hc, by simp; omega⟩
    rw [this, Bool.and_false]
   simp [ilV, hc, g1, g2, bad, zero16, ms0, msC, tailC, r00, setOb, List.filter_cons]
  simp [ilV, hc, g1, g2, zero16, setOb, List.filter_cons]
  rw [wrap64 (by omega) (by omega), wrap64 (by omega) (by omega)]
  refine ⟨i + 1, ⟨hc, fun x hx => ?_⟩, by dsimp only; omega, ?_⟩
  ·rw [List.take_succ_eq_append_getElem hc] at hx
   rcases List.mem_append.1 hx with hx | hx
   ·exact hg x hx
   ·simp at hx; subst hx; omega
  ·refine weak_obs ?_ (by simp [zero16]) (by repeat (first | exact sin_empty | refine sin_set (by simp) ?_)) (by simp [zero16])
   repeat (first | exact sub_empty | refine sub_set (by simp [hst]) ?_)
 have hil : i = odds.length := by omega
 subst hil
 rw [List.take_length] at hg
 have good : oddsOk ms odds = true := by
  unfold oddsOk
  simp [hl, h0]
  exact hg
 have M := hM good
 obtain ⟨s1, s2⟩ := isum_bound hg
 simp [ilV, good, setOb, List.filter_cons]
 refine callK_X weights_NoneX ?_
 rintro r s ⟨rfl, rfl⟩
 have e16 : (V.nils :: tailC (rawOf 0) (rawOf 0) (rawOf 0) (rawOf 0) (rawOf 0)).length = 16 := by simp [tailC]
 simp [noneV, e16, setOb, List.filter_cons]
 have lR : (oddsR odds).length = odds.length := by simp [oddsR]
 have lL : (ms.zip (oddsR odds)).length = ms.length := by rw [List.length_zip, lR]; omega
 have gL : ∀ i (h : i < ms.length) (h' : i < odds.length), (ms.zip (oddsR odds))[i]? = some (ms[i], mkRat odds[i] (isum odds).toNat) := fun i h h' => by
  rw [List.getElem?_eq_getElem (by omega)]; simp [oddsR]
 obtain ⟨M1, MA, MJ, MP, Mb⟩ := M
 generalize hLe : ms.zip (oddsR odds) = L at *
 have fin : mixM (L.take L.length) = mixM L := by rw [List.take_length]
 have eA : mixM (L.take 0) = ⟨[], rawOf 0, rawOf 0, rawOf 0, rawOf 0, rawOf 0⟩ := by simp [mixM, sumBy]
 have sh0 : Shut [(1, ⟨.own, 16, [V.nils :: tailC (rawOf 0) (rawOf 0) (rawOf 0) (rawOf 0) (rawOf 0)]⟩), (0, ⟨.own, 16, [zero16]⟩)] := shut_cons (shut_cons shut0 (plain_row zero16_in)) (plain_row (by
  intro y hy f
  simp only [List.mem_cons] at hy
  rcases hy with rfl | hy
  ·simp [V.within]
  ·exact tail_in _ _ _ _ _ y hy f))
 have I0 : BJ (mixM (L.take 0)) 0 [(1, ⟨.own, 16, [V.nils :: tailC (rawOf 0) (rawOf 0) (rawOf 0) (rawOf 0) (rawOf 0)]⟩), (0, ⟨.own, 16, [zero16]⟩)] := by
  rw [eA]
  exact ⟨by simp [E.look], by simp [E.look, grown_zero], fun h => (h rfl).elim, fun h => (h rfl).elim, sh0⟩
 refine wm_loop (fun t : Nat × Nat × Sto => (mixL ms odds (isum odds) t.1, t.2.2)) (fun t => t.1 ≤ ms.length ∧ BJ (mixM (L.take t.1)) t.2.1 t.2.2) (fun t => ms.length - t.1) (0, 0, [(1, ⟨.own, 16, [V.nils :: tailC (rawOf 0) (rawOf 0) (rawOf 0) (rawOf 0) (rawOf 0)]⟩), (0, ⟨.own, 16, [zero16]⟩)]) ⟨Nat.zero_le _, I0⟩ ?_ ?_
 ·refine I0.weak ?_
  unfold mixL ilV
  repeat (first | exact sub_empty | refine sub_set (by simp) ?_)
 rintro ⟨i, q, τ⟩ ⟨hi, I⟩
 dsimp only at hi I
 have f0 := lt_fresh I.res
 have f1 := lt_fresh I.out
 have hout := I.out
 have hres := I.res
 have m16 : ∀ m : Ms, (msC m).length = 16 := fun m => by simp [msC, tailC]
 have k16 : ∀ m : Ms, List.take 16 (msC m) = msC m := fun m => by simp [msC, tailC]
 have l15 : ∀ {a b c d e : Raw}, (tailC a b c d e).length = 15 := by simp [tailC]
 have t15 : ∀ {a b c d e : Raw}, List.take 15 (tailC a b c d e) = tailC a b c d e := by simp [tailC]
 have d15 : ∀ {a b c d e : Raw}, List.drop 15 (tailC a b c d e) = [] := by simp [tailC]
 unfold mixL
 by_cases h1' : i < ms.length
 ·have hiL : i < L.length := by omega
  have hio : i < odds.length := by omega
  have gi : L[i] = (ms[i], mkRat odds[i] (isum odds).toNat) := by
   have := gL i h1' hio
   rw [List.getElem?_eq_getElem hiL] at this
   exact Option.some.inj this
  have hgo := hg _ (List.getElem_mem hio)
  have mk := ratio_Make (p := odds[i]) (q := isum odds) (by omega) (by omega) (by omega) (by omega)
  obtain ⟨z1, z2, z3⟩ := M1 _ (List.getElem_mem hiL)
  obtain ⟨e1, e2, e3, e4, e5⟩ := mixM_q hiL
  have ep := mixM_parts hiL
  rw [gi] at z1 z2 z3 e1 e2 e3 e4 e5 ep
  dsimp only at z1 z2 z3 e1 e2 e3 e4 e5 ep
  simp [ilV, h1', hio, m16, k16, setOb2]
  refine callK_of mk (by simp) ?_
  have hgo2 := hgo.2
  generalize mkRat odds[i] (isum odds).toNat = w at *
  generalize hX : setOb τ (fresh τ) ⟨.own, 16, [msC ms[i]]⟩ = X
  have hXf : fresh X = fresh τ + 1 := by rw [← hX, fresh_so]; omega
  have hXo : ∀ o, o < fresh τ → E.look X o = E.look τ o := fun o ho => by rw [← hX, look_setOb, if_neg (by omega)]
  have hXm : E.look X (fresh τ) = some ⟨.own, 16, [msC ms[i]]⟩ := by rw [← hX, look_setOb, if_pos rfl]
  have hXs : Shut X := by rw [← hX]; exact shut_set I.shut (plain_row (msC_in _))
  simp [ratV, raw_v, rchs, rch, setOb2]
  generalize hY : setOb X (fresh X) ⟨.own, 3, [(rawOf w).c]⟩ = Y
  have hYf : fresh Y = fresh τ + 2 := by rw [← hY, fresh_so, hXf]; omega
  have hYo : ∀ o, o < fresh τ → E.look Y o = E.look τ o := fun o ho => by rw [← hY, look_setOb, if_neg (by omega), hXo o ho]
  have hYm : E.look Y (fresh τ) = some ⟨.own, 16, [msC ms[i]]⟩ := by rw [← hY, look_setOb, if_neg (by omega), hXm]
  have hYw : E.look Y (fresh X) = some ⟨.own, 3, [(rawOf w).c]⟩ := by rw [← hY, look_setOb, if_pos rfl]
  have hYs : Shut Y := by rw [← hY]; exact shut_set hXs (plain_row fun y hy f => rawc_within _ y hy)
  have hY1 := (hYo 1 f1).trans hout
  have t3 : ∀ x : Raw, List.take 3 x.c = x.c := fun x => by simp [Raw.c]
  have hX1 := (hXo 1 f1).trans hout
  have n1 : ¬ 1 = fresh X := by omega
  have n2 : ¬ fresh τ = fresh X := by omega
  simp [hX1, hXm, hY1, hYm, hYw, n1, n2, getOb, l15, t15, m16, k16, t3]
  refine callFK_of z1 (by simp [toD_msV, toD_rawc, raw_v]) ?_
  have r0 : ∀ (σ : Sto) (n : Nat), (msC ms[i]).flatMap (rch σ n) = [] := fun σ n => rch_msV σ n _
  simp [r0, rchs, E.deep]
  obtain ⟨gok, gln⟩ := MA i
  have gth := weights_gather (σ := Y) (G := (mixM (L.take i)).parts) (q := q) (y := normM (sclM ms[i] w)) (a := (mixM (L.take i)).rf) (b := (mixM (L.take i)).lo) (c := (mixM (L.take i)).f0) (d := (mixM (L.take i)).f1) (e := (mixM (L.take i)).f2)
   hYs (fun h => by rw [hYo q (lt_fresh (I.prt h))]; exact I.prt h) gln (Nat.le_trans (normM_len _) (by rw [sclM_len]; omega)) gok.rf gok.lo gok.f0 gok.f1 gok.f2 z2
  rw [e1, e2, e3, e4, e5, ← ep] at gth
  have st := I.step (y := normM (sclM ms[i] w)) (A' := mixM (L.take (i + 1))) hYo (by omega) hYs ep
  have g2 : E.look (gthS Y q (mixM (L.take i)).parts (normM (sclM ms[i] w)).parts) 1 = some ⟨.own, 16, [grown q (mixM (L.take i)).parts.length :: tailC (mixM (L.take i)).rf (mixM (L.take i)).lo (mixM (L.take i)).f0 (mixM (L.take i)).f1 (mixM (L.take i)).f2]⟩ := by
   rw [gthS_look (fun h => (I.q2 h).2.symm) (by omega)]; exact hY1
  refine callXK_X gth ?_
  simp [g2, l15, d15, getOb]
  rw [wrap64 (by omega) (by omega)]
  refine ⟨(i + 1, _, _), ⟨h1', st⟩, by dsimp only; omega, st.weak ?_⟩
  unfold mixL ilV
  repeat (first | exact sub_empty | refine sub_set (by simp) ?_)
 ·have hil : i = L.length := by omega
  subst hil
  simp [ilV, h1', hout, l15, t15, getOb]
  obtain ⟨okE, lnE⟩ := MA L.length
  rw [fin] at I okE lnE
  have come := weights_comeB (m := mixM L) MJ (fun p hp => ⟨(okE.parts p hp).1, MP p hp⟩) okE Mb lnE
  have hprt := I.prt
  have hq2 := I.q2
  generalize mixM L = A at *
  have e11 : ∀ {a b c d e : Raw}, mapO (toD τ 11) (tailC a b c d e) = some (tailC a b c d e) := by simp [tailC]
  have hTD : toD τ 11 (grown q A.parts.length) = some (pl A.parts) := toD_grown (k := 10) (st := .own) (es := 6) (fun h => hprt (fun e => h (by rw [e]; rfl))) (by simp) (by simp) (by simp) (fun r hr => by obtain ⟨p, _, rfl⟩ := List.mem_map.1 hr; exact toD_partC _ _ _)
  refine callK_of come ?_ ?_
  ·simp [e11, hTD, msC]
  have hrr : rch τ 11 (grown q A.parts.length) = if A.parts = [] then [] else [q] := by
   by_cases n0 : A.parts = []
   ·rw [if_pos n0, n0]; rfl
   ·rw [if_neg n0, grown_pos (fun h => n0 (List.length_eq_zero_iff.1 h))]
    exact rch_flatM (k := 10) (st := .own) (es := 6) (l := A.parts.map partC) (by simp [getOb, hprt n0]) (by simp) (fun r hr => by obtain ⟨p, _, rfl⟩ := List.mem_map.1 hr; exact rch_partM _ _ _)
  have rt : ∀ {a b c d e : Raw}, (tailC a b c d e).flatMap (rch τ 11) = [] := by simp [tailC]
  have l1 : E.look (frz τ (if A.parts = [] then [] else [q])) 0 = some ⟨.own, 16, [zero16]⟩ := by
   rw [look_frz, hres]
   by_cases n0 : A.parts = []
   ·simp [n0]
   ·have := (hq2 n0).1
    simp [n0, Ne.symm this]
  have n16 : (msC (normM A)).length = 16 := by simp [msC, tailC]
  have t16 : List.take 16 (msC (normM A)) = msC (normM A) := by simp [msC, tailC]
  simp [rchs, E.deep, hrr, rt, Ms.v, l1, zero16, n16, t16, toD_msV]
theorem mixV_cases (ms : List Ms) (odds : List Int) : (oddsOk ms odds = false ∧ mixV ms odds = .tup [ms0.v, .int .i64 1]) ∨ (oddsOk ms odds = true ∧ mixV ms odds = .tup [(normM (mixM (ms.zip (oddsR odds)))).v, .int .i64 0]) := by
 unfold mixV
 cases h : oddsOk ms odds
 ·exact .inl ⟨rfl, by simp⟩
 ·exact .inr ⟨rfl, by simp⟩
theorem mass_Mix {ms : List Ms} {odds : List Int} {J : Nat} (lm : ms.length ≤ 1000) (h1 : odds.length ≤ 1000) (hB : ∀ x ∈ odds, -9223372036854775808 ≤ x ∧ x < 9223372036854775808) (hM : oddsOk ms odds = true → MixOk ms odds J ∧ (normM (mixM (ms.zip (oddsR odds)))).Ok (2 ^ 31) ∧ ∀ p ∈ (mixM (ms.zip (oddsR odds))).parts, cntT p.v ≤ 1000000) :
 CallD Tryz.prog F.mass_Mix [.dat (ms.map msC), ilV odds] (· = mixV ms odds) := by
 have wm := weights_Mix lm h1 hB fun h => (hM h).1
 have n16 : ∀ y : Ms, (msC y).length = 16 := fun y => by simp [msC, tailC]
 have t16 : ∀ y : Ms, List.take 16 (msC y) = msC y := fun y => by simp [msC, tailC]
 have d16 : ∀ y : Ms, List.drop 16 (msC y) = [] := fun y => by simp [msC, tailC]
 refine callD_by F.mass_Mix_ok ?_
 unfold F.mass_Mix_c
 simp [ilV, setOb, List.filter_cons]
 refine callK_of wm (by simp [ilV]) ?_
 rcases mixV_cases ms odds with ⟨g, e⟩ | ⟨g, e⟩
 ·rw [e]
  simp [ms0, msC, tailC, r00, setOb, List.filter_cons]
 ·rw [e]
  obtain ⟨M, ok, cn⟩ := hM g
  have fin : mixM ((ms.zip (oddsR odds)).take (ms.zip (oddsR odds)).length) = mixM (ms.zip (oddsR odds)) := by rw [List.take_length]
  have ln := (M.A (ms.zip (oddsR odds)).length).2
  rw [fin] at ln
  simp [Ms.v, n16, t16, d16, setOb, List.filter_cons]
  refine callK_of (own_Mass (m := normM (mixM (ms.zip (oddsR odds)))) (K := 2 ^ 31) (by omega) ok (Nat.le_trans (normM_len _) ln) (normM_cnt cn)) (by simp [toD_msV]) ?_
  simp [Ms.v, n16, t16, d16, toD_msV, rch_msV, setOb, List.filter_cons]
end Go.Proofs.YtmjgehbpcchjpaaGreatDoor
