import Derived.Test.YtmjgehbpcchjpaaGreatDoorHR
import Derived.Test.YtmjgehbpcchjpaaGreatDoorHO
namespace Go.Proofs.YtmjgehbpcchjpaaGreatDoor.F
open Go Go.Proofs Go.Proofs.YtmjgehbpcchjpaaGreatDoor.E Go.Proofs.YtmjgehbpcchjpaaGreatDoor.Q
abbrev weights_Answer : Nat := 86
def weights_Answer_c : MFn := ⟨24,(.seq (r [o 1 (.box (.t 0)),o 2 (.mv (.c .nils)),o 3 (.mv (i 0))] [1]) (.seq (r [o 7 (.ld (some 16) (.t 1)),o 8 (.call 111 [(.t 7)]),o 4 (.alloc zR),z (.st 3 (.t 4) (.t 8))] [1,4]) (.seq (.seq (r [o 9 (.ld (some 3) (.t 4)),o 10 (.call 36 [(.t 9)]),o 11 (.bin .eql (.t 10) (i 0))] [1,4,11]) (.cond (.t 11) (.seq (r [o 2 (.mv (.c .nils)),o 3 (.mv (i 31))] [2,3]) .ret) .skip)) (.seq (r [o 13 (.callF 48 []),o 14 (.ld (some 3) (.t 4)),o 15 (.callF 43 [(.t 13),(.t 14)]),o 12 (.mv (.t 15)),o 16 (.ext (.t 12) 0),o 17 (.ext (.t 12) 1),o 5 (.alloc zR),z (.st 3 (.t 5) (.t 16)),o 6 (.mv (.t 17))] [1,5]) (.seq (r [o 18 (.fA 0 (.t 1)),o 19 (.ld none (.t 18)),o 20 (.build zM [(0,1,(.t 19))]),o 21 (.ld (some 3) (.t 5)),o 22 (.call 83 [(.t 20),(.t 21)]),o 23 (.fld 0 none (.t 22)),o 2 (.mv (.t 23)),o 3 (.mv (i 0))] [2,3]) .ret))))),[.t 2,.t 3]⟩
theorem weights_Answer_ok : cFn Tryz.prog (kps [[1],[1,4],[1,4,11],[2,3],[1,5],[2,3]]) [] 86 = some weights_Answer_c := by kernel_rfl
abbrev mass_Answer : Nat := 25
def mass_Answer_c : MFn := ⟨14,(.seq (r [o 1 (.box (.t 0)),o 2 (.mv (.c .nils)),o 3 (.mv (i 0))] [1]) (.seq (r [o 7 (.ld (some 16) (.t 1)),o 8 (.call 86 [(.t 7)]),o 6 (.mv (.t 8)),o 9 (.ext (.t 6) 0),o 10 (.ext (.t 6) 1),o 4 (.mv (.t 9)),o 5 (.mv (.t 10))] [4,5]) (.seq (r [o 11 (.mv (.t 4)),o 12 (.call 87 [(.t 11)]),o 13 (.mv (.t 5)),o 2 (.mv (.t 12)),o 3 (.mv (.t 13))] [2,3]) .ret))),[.t 2,.t 3]⟩
theorem mass_Answer_ok : cFn Tryz.prog (kps [[1],[4,5],[2,3]]) [] 25 = some mass_Answer_c := by kernel_rfl
abbrev weights_Bounds : Nat := 91
def weights_Bounds_c : MFn := ⟨43,(.seq (r [o 2 (.box (.t 0)),o 3 (.box (.t 1)),o 4 (.alloc zR),o 5 (.alloc zR),o 6 (.mv (i 0))] [2,3,4,5]) (.seq (r [o 13 (.ld (some 16) (.t 2)),o 14 (.callF 111 [(.t 13)]),o 15 (.fA 4 (.t 2)),o 16 (.ld (some 3) (.t 15)),o 17 (.callF 40 [(.t 14),(.t 16)]),o 18 (.ld (some 16) (.t 2)),o 19 (.ld (some 3) (.t 3)),o 20 (.callF 118 [(.t 18),(.t 19)]),o 7 (.alloc zR),o 8 (.alloc zR),z (.st 3 (.t 7) (.t 17)),z (.st 3 (.t 8) (.t 20))] [2,4,5,7,8]) (.seq (r [o 22 (.ld (some 3) (.t 8)),o 23 (.ld (some 3) (.t 7)),o 24 (.call 43 [(.t 22),(.t 23)]),o 21 (.mv (.t 24)),o 25 (.ext (.t 21) 0),o 26 (.ext (.t 21) 1),o 9 (.alloc zR),z (.st 3 (.t 9) (.t 25)),o 10 (.mv (.t 26))] [2,4,5,7,8,9,10]) (.seq (.seq (r [o 27 (.mv (.t 10)),o 28 (.bin .neq (.t 27) (i 0))] [2,4,5,7,8,9,10,28]) (.cond (.t 28) (.seq (r [o 29 (.build zR []),o 30 (.build zR []),o 31 (.mv (.t 10)),z (.st 3 (.t 4) (.t 29)),z (.st 3 (.t 5) (.t 30)),o 6 (.mv (.t 31))] [4,5,6]) .ret) .skip)) (.seq (r [o 33 (.ld (some 3) (.t 8)),o 34 (.fA 4 (.t 2)),o 35 (.ld (some 3) (.t 34)),o 36 (.callF 40 [(.t 33),(.t 35)]),o 37 (.ld (some 3) (.t 7)),o 38 (.callF 43 [(.t 36),(.t 37)]),o 32 (.mv (.t 38)),o 39 (.ext (.t 32) 0),o 40 (.ext (.t 32) 1),o 11 (.alloc zR),z (.st 3 (.t 11) (.t 39)),o 12 (.mv (.t 40))] [4,5,9,11]) (.seq (r [o 41 (.ld (some 3) (.t 9)),o 42 (.ld (some 3) (.t 11)),z (.stA 3 (.t 4) (.t 41) [11]),z (.st 3 (.t 5) (.t 42)),o 6 (.mv (i 0))] [4,5,6]) .ret)))))),[.cell 4 (some 3),.cell 5 (some 3),.t 6]⟩
theorem weights_Bounds_ok : cFn Tryz.prog (kps [[2,3,4,5],[2,4,5,7,8],[2,4,5,7,8,9,10],[2,4,5,7,8,9,10,28],[4,5,6],[4,5,9,11],[4,5,6]]) [] 91 = some weights_Bounds_c := by kernel_rfl
abbrev mass_Bounds : Nat := 27
def mass_Bounds_c : MFn := ⟨13,(.seq (r [o 2 (.box (.t 0)),o 3 (.box (.t 1)),o 4 (.alloc zR),o 5 (.alloc zR),o 6 (.mv (i 0))] [2,3,4,5]) (.seq (r [o 7 (.ld (some 16) (.t 2)),o 8 (.ld (some 3) (.t 3)),o 9 (.call 91 [(.t 7),(.t 8)]),o 10 (.ext (.t 9) 0),o 11 (.ext (.t 9) 1),o 12 (.ext (.t 9) 2),z (.st 3 (.t 4) (.t 10)),z (.st 3 (.t 5) (.t 11)),o 6 (.mv (.t 12))] [4,5,6]) .ret)),[.cell 4 (some 3),.cell 5 (some 3),.t 6]⟩
theorem mass_Bounds_ok : cFn Tryz.prog (kps [[2,3,4,5],[4,5,6]]) [] 27 = some mass_Bounds_c := by kernel_rfl
end Go.Proofs.YtmjgehbpcchjpaaGreatDoor.F

namespace Go.Proofs.YtmjgehbpcchjpaaGreatDoor
open Go Go.Proofs Go.Proofs.YtmjgehbpcchjpaaGreatDoor.E
set_option linter.unusedSimpArgs false
set_option linter.unusedVariables false
def ansV (l : List Part) : V := if psum l = 0 then .tup [.dat [], .int .i64 31] else .tup [pl (normP (sclP l (1 / psum l))), .int .i64 0]
theorem weights_Answer {m : Ms} {K : Nat} (hK : 1 ≤ K) (hm : m.Ok K) (hl : m.parts.length ≤ 1000) (hb : K ≤ 1000) : CallD Tryz.prog F.weights_Answer [m.v] (· = ansV m.parts) := by
 have p1 : m.parts.length * (K + 1) ≤ 1000 * 1001 := Nat.mul_le_mul hl (by omega)
 have fp := psum_fits hK hm.parts
 refine callD_by F.weights_Answer_ok ?_
 unfold F.weights_Answer_c ansV
 simp [setOb, List.filter_cons, msC, tailC]
 refine callK_of (weights_Values hK (by omega) hm (by omega) (by omega)) (by simp [msC, tailC]) ?_
 simp [ratV, raw_v, setOb, List.filter_cons]
 refine callK_of (ratio_Sign (rawOf_ok (fp.mono (by omega)))) (by simp [toD_rawc, raw_v]) ?_
 rw [rawOf_q]
 by_cases h0 : psum m.parts = 0
 ·simp [h0, sgnR_zero, setOb, List.filter_cons]
 have h0' : ¬ sgnR (psum m.parts) = 0 := fun h => h0 (sgnR_zero_iff.1 h)
 simp [h0, h0', setOb, List.filter_cons]
 refine callFK_of ratio_One (by simp) ?_
 simp [ratV, raw_v]
 have f1 : Fits (1 : Rat) (2 ^ 31) := fits_one.mono (by omega)
 refine callFK_of (ratio_Div (rawOf_ok f1) (rawOf_ok (fp.mono (by omega)))) (by simp [toD_rawc, raw_v]) ?_
 rw [rawOf_q, rawOf_q]
 simp [divR, h0, ratV, raw_v, setOb, List.filter_cons]
 have f2 : Fits (1 / psum m.parts) (2 + m.parts.length * (K + 1)) := (fits_divM fits_one fp (by omega)).mono (by omega)
 have f3 : 1 + m.parts.length * (2 * (2 + m.parts.length * (K + 1) + K) + 1) + 2 * (2 + m.parts.length * (K + 1) + K) ≤ 2 ^ 31 := by
  have := Nat.mul_le_mul hl (show 2 * (2 + m.parts.length * (K + 1) + K) + 1 ≤ 2004006 by omega)
  omega
 have key := weights_Scale (m := ⟨m.parts, r00, r00, r00, r00, r00⟩) (w := rawOf (1 / psum m.parts)) (K := 2 + m.parts.length * (K + 1) + K) (by omega) ⟨fun p hp => ⟨(hm.parts p hp).1, rok (hm.parts p hp).2 (by omega)⟩, r00_ok, r00_ok, r00_ok, r00_ok, r00_ok⟩ (rawOf_ok (f2.mono (by omega))) (by dsimp only; omega) f3
 rw [rawOf_q] at key
 refine callK_of key (by simp [msC, tailC, r00, toD_rawc, raw_v]) ?_
 simp [setOb, List.filter_cons, msC, tailC, normM, sclM]
end Go.Proofs.YtmjgehbpcchjpaaGreatDoor

namespace Go.Proofs.YtmjgehbpcchjpaaGreatDoor
open Go Go.Proofs Go.Proofs.YtmjgehbpcchjpaaGreatDoor.E
set_option linter.unusedSimpArgs false
set_option linter.unusedVariables false
theorem mass_Answer {m : Ms} {K : Nat} (hK : 1 ≤ K) (hm : m.Ok K) (hl : m.parts.length ≤ 1000) (hb : K ≤ 1000) (hc : ∀ p ∈ m.parts, cntT p.v ≤ 1000000) : CallD Tryz.prog F.mass_Answer [m.v] (· = ansV m.parts) := by
 have p1 : m.parts.length * (K + 1) ≤ 1000 * 1001 := Nat.mul_le_mul hl (by omega)
 have fp := psum_fits hK hm.parts
 refine callD_by F.mass_Answer_ok ?_
 unfold F.mass_Answer_c
 simp [setOb, List.filter_cons, msC, tailC]
 refine callK_of (weights_Answer hK hm hl hb) (by simp [msC, tailC]) ?_
 unfold ansV
 by_cases h0 : psum m.parts = 0
 ·have own0 := own_Parts (l := []) (k := 1) (by omega) (by simp) (by simp)
  simp [h0, setOb, List.filter_cons]
  refine callK_of own0 (by simp) ?_
  simp
 ·have f2 : Fits (1 / psum m.parts) (2 + m.parts.length * (K + 1)) := (fits_divM fits_one fp (by omega)).mono (by omega)
  simp [h0, setOb, List.filter_cons]
  have q := 2 + m.parts.length * (K + 1) + K
  have ok : ∀ p ∈ sclP m.parts (1 / psum m.parts), p.v.Ok ∧ p.w.Ok (2 * (2 + m.parts.length * (K + 1) + K)) := fun p hp => by
   obtain ⟨x, hx, rfl⟩ := List.mem_map.1 hp
   exact ⟨(hm.parts x hx).1, rawOf_ok (fits_muls ((Raw.fits (hm.parts x hx).2 hK).mono (by omega)) (f2.mono (by omega)) (by omega))⟩
  have ln : (normP (sclP m.parts (1 / psum m.parts))).length ≤ 1000 := Nat.le_trans (normP_len _) (by simp [sclP]; exact hl)
  refine callK_of (own_Parts (l := normP (sclP m.parts (1 / psum m.parts))) (k := 2 ^ 33) (by omega) (by omega) fun p hp => ?_) (by simp) ?_
  ·obtain ⟨x, hx, e⟩ := normP_vals hp
   obtain ⟨y, hy, rfl⟩ := List.mem_map.1 hx
   refine ⟨e ▸ (hm.parts y hy).1, e ▸ hc y hy, ?_⟩
   rw [(normP_w hp).1]
   refine rawOf_ok ((wsum_fits (k := 2 * (2 + m.parts.length * (K + 1) + K)) (by omega) (fun z hz => Raw.fits (ok z hz).2 (by omega)) _).mono ?_)
   have : (sclP m.parts (1 / psum m.parts)).length * (2 * (2 + m.parts.length * (K + 1) + K) + 1) ≤ 1000 * 2004006 := Nat.mul_le_mul (by simp [sclP]; exact hl) (by omega)
   omega
  ·simp
end Go.Proofs.YtmjgehbpcchjpaaGreatDoor

namespace Go.Proofs.YtmjgehbpcchjpaaGreatDoor
open Go Go.Proofs Go.Proofs.YtmjgehbpcchjpaaGreatDoor.E
set_option linter.unusedSimpArgs false
set_option linter.unusedVariables false
def bndV (m : Ms) (v : Tr) : V :=
 if psum m.parts + m.lo.q = 0 then .tup [.agg [.bool false, .dat [], .dat []], .agg [.bool false, .dat [], .dat []], .int .i64 31]
 else .tup [ratV (wsum m.parts v / (psum m.parts + m.lo.q)), ratV ((wsum m.parts v + m.lo.q) / (psum m.parts + m.lo.q)), .int .i64 0]
theorem weights_Bounds {m : Ms} {v : Tr} {K : Nat} (hK : 1 ≤ K) (hm : m.Ok K) (hv : v.Ok) (hl : m.parts.length ≤ 1000) (hb : K ≤ 1000) : CallD Tryz.prog F.weights_Bounds [m.v, .agg v.cells] (· = bndV m v) := by
 have p1 : m.parts.length * (K + 1) ≤ 1000 * 1001 := Nat.mul_le_mul hl (by omega)
 have f1 : Fits (psum m.parts) (2 ^ 24) := (psum_fits hK hm.parts).mono (by omega)
 have f2 : Fits (wsum m.parts v) (2 ^ 24) := (wsum_fits hK (fun x hx => Raw.fits (hm.parts x hx).2 hK) v).mono (by omega)
 have f3 : Fits m.lo.q (2 ^ 24) := (Raw.fits hm.lo hK).mono (by omega)
 have f4 : Fits (psum m.parts + m.lo.q) (2 ^ 26) := (fits_add f1 f3).mono (by omega)
 have f5 : Fits (wsum m.parts v + m.lo.q) (2 ^ 26) := (fits_add f2 f3).mono (by omega)
 refine callD_by F.weights_Bounds_ok ?_
 unfold F.weights_Bounds_c bndV
 simp [setOb, List.filter_cons, msC, tailC]
 refine callFK_of (weights_Values hK (by omega) hm (by omega) (by omega)) (by simp [msC, tailC]) ?_
 simp [ratV, Raw.v]
 refine callFK_of (ratio_Add (rawOf_ok (f1.mono (by omega))) (rok hm.lo (by omega))) (by simp [Raw.v]) ?_
 rw [rawOf_q]
 simp [ratV, Raw.v]
 refine callFK_of (weights_Weight hK (by omega) hm hv (by omega) (by omega)) (by simp [msC, tailC, toD_cells]) ?_
 simp [ratV, Raw.v, setOb, List.filter_cons]
 refine callK_of (ratio_Div (rawOf_ok (f2.mono (by omega))) (rawOf_ok (f4.mono (by omega)))) (by simp [Raw.v]) ?_
 rw [rawOf_q, rawOf_q]
 by_cases h0 : psum m.parts + m.lo.q = 0
 ·simp [divR, h0, setOb, List.filter_cons]
 simp [divR, h0, ratV, Raw.v, setOb, List.filter_cons]
 refine callFK_of (ratio_Add (rawOf_ok (f2.mono (by omega))) (rok hm.lo (by omega))) (by simp [Raw.v]) ?_
 rw [rawOf_q]
 simp [ratV, Raw.v]
 refine callFK_of (ratio_Div (rawOf_ok (f5.mono (by omega))) (rawOf_ok (f4.mono (by omega)))) (by simp [Raw.v]) ?_
 rw [rawOf_q, rawOf_q]
 simp [divR, h0, ratV, Raw.v, setOb, List.filter_cons, offs, V.off]
theorem mass_Bounds {m : Ms} {v : Tr} {K : Nat} (hK : 1 ≤ K) (hm : m.Ok K) (hv : v.Ok) (hl : m.parts.length ≤ 1000) (hb : K ≤ 1000) : CallD Tryz.prog F.mass_Bounds [m.v, .agg v.cells] (· = bndV m v) := by
 refine callD_by F.mass_Bounds_ok ?_
 unfold F.mass_Bounds_c
 simp [setOb, List.filter_cons, msC, tailC]
 refine callK_of (weights_Bounds hK hm hv hl hb) (by simp [msC, tailC, toD_cells]) ?_
 unfold bndV
 by_cases h0 : psum m.parts + m.lo.q = 0
 ·simp [h0, setOb, List.filter_cons]
 ·simp [h0, ratV, Raw.v, setOb, List.filter_cons]
end Go.Proofs.YtmjgehbpcchjpaaGreatDoor
