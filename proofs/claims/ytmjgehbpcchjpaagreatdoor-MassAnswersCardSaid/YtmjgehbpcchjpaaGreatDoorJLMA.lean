/- MassAnswers, over data. -/
import Derived.Test.YtmjgehbpcchjpaaGreatDoorHT
import Derived.Test.YtmjgehbpcchjpaaGreatDoorHU
namespace Go.Proofs.YtmjgehbpcchjpaaGreatDoor.F
open Go Go.Proofs Go.Proofs.YtmjgehbpcchjpaaGreatDoor.E Go.Proofs.YtmjgehbpcchjpaaGreatDoor.Q
abbrev law04_MassAnswers : Nat := 4
def law04_MassAnswers_c : MFn := ⟨76,(.seq (r [o 2 (.box (.t 0)),o 3 (.box (.t 1)),o 4 (.mv (.c (.bool false)))] [2,3]) (.seq (.seq (r [o 15 (.ld (some 16) (.t 2)),o 16 (.buildSl 16 1 zM [(0,(.t 15))]),o 17 (.call 14 [(.t 16)]),o 18 (.un .not (.t 17)),o 19 (.mv (.t 18)),n 20 19 (.ld (some 3) (.t 3)),n 21 19 (.buildSl 3 1 zV [(0,(.t 20))]),n 22 19 (.call 24 [(i 200),(.t 21)]),n 23 19 (.un .not (.t 22)),o 24 (.pick (.t 19) (.c (.bool true)) (.t 23))] [2,3,24]) (.cond (.t 24) (.seq (r [o 25 (.call 16 []),o 4 (.mv (.t 25))] [4]) .ret) .skip)) (.seq (r [o 27 (.ld (some 16) (.t 2)),o 28 (.call 25 [(.t 27)]),o 26 (.mv (.t 28)),o 29 (.ext (.t 26) 0),o 30 (.ext (.t 26) 1),o 5 (.mv (.t 29)),o 6 (.mv (.t 30))] [2,3,5,6]) (.seq (r [o 32 (.ld (some 16) (.t 2)),o 33 (.call 26 [(.t 32)]),o 31 (.mv (.t 33)),o 34 (.ext (.t 31) 0),o 35 (.ext (.t 31) 1),o 7 (.mv (.t 34)),o 8 (.mv (.t 35))] [2,3,5,6,7,8]) (.seq (r [o 37 (.ld (some 16) (.t 2)),o 38 (.ld (some 3) (.t 3)),o 39 (.call 27 [(.t 37),(.t 38)]),o 36 (.mv (.t 39)),o 40 (.ext (.t 36) 0),o 41 (.ext (.t 36) 1),o 42 (.ext (.t 36) 2),o 9 (.alloc zR),o 10 (.alloc zR),z (.st 3 (.t 9) (.t 40)),z (.st 3 (.t 10) (.t 41)),o 11 (.mv (.t 42))] [2,3,5,6,7,8,9,10,11]) (.seq (r [o 44 (.ld (some 16) (.t 2)),o 45 (.ld (some 3) (.t 3)),o 46 (.call 28 [(.t 44),(.t 45)]),o 43 (.mv (.t 46)),o 47 (.ext (.t 43) 0),o 48 (.ext (.t 43) 1),o 49 (.ext (.t 43) 2),o 12 (.alloc zR),o 13 (.alloc zR),z (.st 3 (.t 12) (.t 47)),z (.st 3 (.t 13) (.t 48)),o 14 (.mv (.t 49))] [5,6,7,8,9,10,11,12,13,14]) (.seq (r [o 50 (.mv (.t 5)),o 51 (.mv (.t 7)),o 52 (.call 29 [(.t 50),(.t 51)]),o 53 (.mv (.t 52)),y 54 53 (.mv (.t 6)),y 55 53 (.mv (.t 8)),y 56 53 (.bin .eql (.t 54) (.t 55)),o 57 (.pick (.t 53) (.t 56) (.c (.bool false))),o 58 (.mv (.t 57)),y 59 58 (.ld (some 3) (.t 9)),y 60 58 (.ld (some 3) (.t 12)),y 61 58 (.call 30 [(.t 59),(.t 60)]),o 62 (.pick (.t 58) (.t 61) (.c (.bool false))),o 63 (.mv (.t 62)),y 64 63 (.ld (some 3) (.t 10)),y 65 63 (.ld (some 3) (.t 13)),y 66 63 (.call 30 [(.t 64),(.t 65)]),o 67 (.pick (.t 63) (.t 66) (.c (.bool false))),o 68 (.mv (.t 67)),y 69 68 (.mv (.t 11)),y 70 68 (.mv (.t 14)),y 71 68 (.bin .eql (.t 69) (.t 70)),o 72 (.pick (.t 68) (.t 71) (.c (.bool false))),o 73 (.mv (.t 72)),y 74 73 (.call 16 []),o 75 (.pick (.t 73) (.t 74) (.c (.bool false))),o 4 (.mv (.t 75))] [4]) .ret))))))),[.t 4]⟩
theorem law04_MassAnswers_ok : cFn Tryz.prog (kps [[2,3],[2,3,24],[4],[2,3,5,6],[2,3,5,6,7,8],[2,3,5,6,7,8,9,10,11],[5,6,7,8,9,10,11,12,13,14],[4]]) [] 4 = some law04_MassAnswers_c := by kernel_rfl
end Go.Proofs.YtmjgehbpcchjpaaGreatDoor.F

namespace Go.Proofs.YtmjgehbpcchjpaaGreatDoor
open Go Go.Proofs Go.Proofs.YtmjgehbpcchjpaaGreatDoor.E
set_option linter.unusedSimpArgs false
set_option linter.unusedVariables false
theorem ansP_ok {l : List Part} {K : Nat} (hK : 1 ≤ K) (hb : K ≤ 1000) (hl : l.length ≤ 1000) (h : ∀ p ∈ l, p.v.Ok ∧ p.w.Ok K) (h0 : psum l ≠ 0) : (normP (sclP l (1 / psum l))).length ≤ 1000 ∧ ∀ p ∈ normP (sclP l (1 / psum l)), p.v.Ok ∧ p.w.Ok (2 ^ 33) := by
 have p1 : l.length * (K + 1) ≤ 1000 * 1001 := Nat.mul_le_mul hl (by omega)
 have fp := psum_fits hK h
 have f2 : Fits (1 / psum l) (2 + l.length * (K + 1)) := (fits_divM fits_one fp (by omega)).mono (by omega)
 have ok : ∀ p ∈ sclP l (1 / psum l), p.v.Ok ∧ p.w.Ok (2 * (2 + l.length * (K + 1) + K)) := fun p hp => by
  obtain ⟨x, hx, rfl⟩ := List.mem_map.1 hp
  exact ⟨(h x hx).1, rawOf_ok (fits_muls ((Raw.fits (h x hx).2 hK).mono (by omega)) (f2.mono (by omega)) (by omega))⟩
 refine ⟨Nat.le_trans (normP_len _) (by simp [sclP]; exact hl), fun p hp => ?_⟩
 obtain ⟨x, hx, e⟩ := normP_vals hp
 obtain ⟨y, hy, rfl⟩ := List.mem_map.1 hx
 refine ⟨e ▸ (h y hy).1, ?_⟩
 rw [(normP_w hp).1]
 refine rawOf_ok ((wsum_fits (k := 2 * (2 + l.length * (K + 1) + K)) (by omega) (fun z hz => Raw.fits (ok z hz).2 (by omega)) _).mono ?_)
 have : (sclP l (1 / psum l)).length * (2 * (2 + l.length * (K + 1) + K) + 1) ≤ 1000 * 2004006 := Nat.mul_le_mul (by simp [sclP]; exact hl) (by omega)
 omega
theorem ansV_is {l : List Part} {K : Nat} (hK : 1 ≤ K) (hb : K ≤ 1000) (hl : l.length ≤ 1000) (h : ∀ p ∈ l, p.v.Ok ∧ p.w.Ok K) : ∃ ps e, ansV l = .tup [pl ps, .int .i64 e] ∧ ps.length ≤ 1000 ∧ ∀ p ∈ ps, p.v.Ok ∧ p.w.Ok (2 ^ 33) := by
 unfold ansV
 by_cases h0 : psum l = 0
 ·exact ⟨[], 31, by simp [h0], by simp, by simp⟩
 ·exact ⟨_, 0, by simp [h0], ansP_ok hK hb hl h h0⟩
theorem bndV_is {m : Ms} {v : Tr} {K : Nat} (hK : 1 ≤ K) (hb : K ≤ 1000) (hl : m.parts.length ≤ 1000) (hm : m.Ok K) : ∃ (x y : Raw) (e : Int), bndV m v = .tup [x.v, y.v, .int .i64 e] ∧ x.Ok (2 ^ 33) ∧ y.Ok (2 ^ 33) := by
 have p1 : m.parts.length * (K + 1) ≤ 1000 * 1001 := Nat.mul_le_mul hl (by omega)
 have f1 : Fits (psum m.parts) (2 ^ 24) := (psum_fits hK hm.parts).mono (by omega)
 have f2 : Fits (wsum m.parts v) (2 ^ 24) := (wsum_fits hK (fun x hx => Raw.fits (hm.parts x hx).2 hK) v).mono (by omega)
 have f3 : Fits m.lo.q (2 ^ 24) := (Raw.fits hm.lo hK).mono (by omega)
 have f4 : Fits (psum m.parts + m.lo.q) (2 ^ 26) := (fits_add f1 f3).mono (by omega)
 have f5 : Fits (wsum m.parts v + m.lo.q) (2 ^ 26) := (fits_add f2 f3).mono (by omega)
 unfold bndV
 by_cases h0 : psum m.parts + m.lo.q = 0
 ·exact ⟨r00, r00, 31, by rw [if_pos h0]; rfl, r00_ok, r00_ok⟩
 ·exact ⟨rawOf _, rawOf _, 0, by rw [if_neg h0]; rfl, rawOf_ok ((fits_divM f2 f4 (by omega)).mono (by omega)), rawOf_ok ((fits_divM f5 f4 (by omega)).mono (by omega))⟩
set_option maxHeartbeats 8000000 in
theorem massAnswers_law {l0 l1 : List V} (h0 : ∃ n, Typed Tryz.prog n T.mass l0) (h1 : ∃ n, Typed Tryz.prog n T.value l1) : CallD Tryz.prog F.law04_MassAnswers [.agg l0, .agg l1] (· = .bool true) := by
 obtain ⟨_, h0⟩ := h0
 obtain ⟨m, rfl, hm, lm⟩ := read_mass h0
 obtain ⟨_, h1⟩ := h1
 obtain ⟨v, rfl, hv⟩ := read_tree h1
 refine callD_by F.law04_MassAnswers_ok ?_
 unfold F.law04_MassAnswers_c
 have e16 : List.take 16 (msC m) = msC m := by simp [msC, tailC]
 have l16 : (msC m).length = 16 := by simp [msC, tailC]
 simp [setOb, List.filter_cons, e16, l16]
 have few := law04_Few (l := [m]) (by simp) (by simp; exact ⟨hm, lm⟩)
 simp at few
 refine callK_of few (by
  simp
  rw [toD_refM (k := 11) (es := 16) (st := .own) (l := [msC m]) (by simp [getOb, E.look]) (by simp) (by simp) (by simp; exact toD_msC _ _ _)]) ?_
 cases c1 : fewM m with
 | false =>
   simp [setOb, List.filter_cons]
   refine callK_of law04_awake (by simp) ?_
   simp
 | true =>
 obtain ⟨ok6, l40, cn⟩ := few_ok hm c1
 simp [setOb, List.filter_cons]
 refine callK_of (law03_Few (B := 200) (l := [v]) (by omega) (by simp) (by simpa using hv)) (by
  simp
  rw [toD_refM (k := 11) (es := 3) (st := .own) (l := [v.cells]) (by simp [getOb, E.look]) (by simp) (by simp) (by simp; exact toD_cells _ _ _)]
  rfl) ?_
 by_cases c2 : ¬ cntL [v] ≤ 200
 ·simp [c2, setOb, List.filter_cons]
  refine callK_of law04_awake (by simp) ?_
  simp
 have c2 := Decidable.not_not.1 c2
 have cv : cntT v ≤ 200 := by have := cntT_le (l := [v]) (x := v) (by simp); omega
 have rm := rch_msC (m := m)
 have p7 : m.parts.length * (6 + 1) ≤ 280 := by omega
 simp [c2, e16, l16, setOb, List.filter_cons]
 obtain ⟨ps, e, ea, a1, a2⟩ := ansV_is (K := 6) (by omega) (by omega) (show m.parts.length ≤ 1000 by omega) ok6.parts
 obtain ⟨x, y, g, eb, b1, b2⟩ := bndV_is (K := 6) (m := m) (v := v) (by omega) (by omega) (by omega) ok6
 have ans := mass_Answer (K := 6) (by omega) ok6 (by omega) (by omega) (fun p hp => by have := cn p hp; omega)
 have anr := ref04_Answer (K := 6) (by omega) ok6 (by omega) (by omega) (fun p hp => by have := cn p hp; omega)
 have bm := mass_Bounds (K := 6) (by omega) ok6 hv (by omega) (by omega)
 have br := ref04_Bounds (K := 6) (by omega) ok6 hv (by omega) (by omega)
 rw [ea] at ans anr
 rw [eb] at bm br
 refine callK_of ans (by simp [toD_msC]) ?_
 simp [e16, l16, rm, setOb, List.filter_cons]
 refine callK_of anr (by simp [toD_msC]) ?_
 simp [e16, l16, rm, setOb, List.filter_cons]
 refine callK_of bm (by simp [toD_msC, toD_cells]) ?_
 simp [raw_v, e16, l16, rm, setOb, List.filter_cons]
 refine callK_of br (by simp [toD_msC, toD_cells]) ?_
 simp [raw_v, e16, l16, rm, setOb, List.filter_cons]
 refine callK_of (law04_AlikeParts (l := ps) (K := 2 ^ 33) (by omega) (by omega) a2) (by simp) ?_
 simp [raw_v, setOb, List.filter_cons]
 refine callK_of (law02_Same b1 (by omega)) (by simp [toD_rawc, raw_v]) ?_
 simp [raw_v, setOb, List.filter_cons]
 refine callK_of (law02_Same b2 (by omega)) (by simp [toD_rawc, raw_v]) ?_
 simp [raw_v, setOb, List.filter_cons]
 refine callK_of law04_awake (by simp) ?_
 simp
end Go.Proofs.YtmjgehbpcchjpaaGreatDoor
