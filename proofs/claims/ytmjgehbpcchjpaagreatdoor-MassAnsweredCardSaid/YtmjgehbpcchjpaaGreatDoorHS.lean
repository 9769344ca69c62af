import Derived.Test.YtmjgehbpcchjpaaGreatDoorHR
import Derived.Test.YtmjgehbpcchjpaaGreatDoorHO
import Derived.Test.YtmjgehbpcchjpaaGreatDoorHQ
namespace Go.Proofs.YtmjgehbpcchjpaaGreatDoor
open Go Go.Proofs Go.Proofs.YtmjgehbpcchjpaaGreatDoor.E
set_option linter.unusedSimpArgs false
set_option linter.unusedVariables false
def ansV (l : List Part) : V := if psum l = 0 then .tup [.dat [], .int .i64 31] else .tup [pl (normP (sclP l (1 / psum l))), .int .i64 0]
theorem weights_Answer {m : Ms} {K : Nat} (hK : 1 ≤ K) (hm : m.Ok K) (hl : m.parts.length ≤ 1000) (hb : K ≤ 1000) : CallD Tryz.prog F.weights_Answer [m.v] (· = ansV m.parts) := by
 have p1 : m.parts.length * (K + 1) ≤ 1000 * 1001 := Nat.mul_le_mul hl (by omega)
 have fp := psum_fits hK hm.parts
 refine callD_by F.weights_Answer_ok ?_
 unfold F.weights_Answer_c ansV
 simp [setOb, List.filter_cons, msC, tailC]
 refine callK_of (weights_Values hK (by omega) hm (by omega) (by omega)) (by simp [msC, tailC]) ?_
 simp [ratV, raw_v, setOb, List.filter_cons]
 refine callK_of (ratio_Sign (rawOf_ok (fp.mono (by omega)))) (by simp [toD_rawc, raw_v]) ?_
 rw [rawOf_q]
 by_cases h0 : psum m.parts = 0
 ·simp [h0, sgnR_zero, setOb, List.filter_cons]
 have h0' : ¬ sgnR (psum m.parts) = 0 := fun h => h0 (sgnR_zero_iff.1 h)
 simp [h0, h0', setOb, List.filter_cons]
 refine callFK_of ratio_One (by simp) ?_
 simp [ratV, raw_v]
 have f1 : Fits (1 : Rat) (2 ^ 31) := fits_one.mono (by omega)
 refine callFK_of (ratio_Div (rawOf_ok f1) (rawOf_ok (fp.mono (by omega)))) (by simp [toD_rawc, raw_v]) ?_
 rw [rawOf_q, rawOf_q]
 simp [divR, h0, ratV, raw_v, setOb, List.filter_cons]
 have f2 : Fits (1 / psum m.parts) (2 + m.parts.length * (K + 1)) := (fits_divM fits_one fp (by omega)).mono (by omega)
 have f3 : 1 + m.parts.length * (2 * (2 + m.parts.length * (K + 1) + K) + 1) + 2 * (2 + m.parts.length * (K + 1) + K) ≤ 2 ^ 31 := by
  have := Nat.mul_le_mul hl (show 2 * (2 + m.parts.length * (K + 1) + K) + 1 ≤ 2004006 by omega)
  omega
 have key := weights_Scale (m := ⟨m.parts, r00, r00, r00, r00, r00⟩) (w := rawOf (1 / psum m.parts)) (K := 2 + m.parts.length * (K + 1) + K) (by omega) ⟨fun p hp => ⟨(hm.parts p hp).1, rok (hm.parts p hp).2 (by omega)⟩, r00_ok, r00_ok, r00_ok, r00_ok, r00_ok⟩ (rawOf_ok (f2.mono (by omega))) (by dsimp only; omega) f3
 rw [rawOf_q] at key
 refine callK_of key (by simp [msC, tailC, r00, toD_rawc, raw_v]) ?_
 simp [setOb, List.filter_cons, msC, tailC, normM, sclM]
end Go.Proofs.YtmjgehbpcchjpaaGreatDoor

namespace Go.Proofs.YtmjgehbpcchjpaaGreatDoor
open Go Go.Proofs Go.Proofs.YtmjgehbpcchjpaaGreatDoor.E
set_option linter.unusedSimpArgs false
set_option linter.unusedVariables false
theorem mass_Answer {m : Ms} {K : Nat} (hK : 1 ≤ K) (hm : m.Ok K) (hl : m.parts.length ≤ 1000) (hb : K ≤ 1000) (hc : ∀ p ∈ m.parts, cntT p.v ≤ 1000000) : CallD Tryz.prog F.mass_Answer [m.v] (· = ansV m.parts) := by
 have p1 : m.parts.length * (K + 1) ≤ 1000 * 1001 := Nat.mul_le_mul hl (by omega)
 have fp := psum_fits hK hm.parts
 refine callD_by F.mass_Answer_ok ?_
 unfold F.mass_Answer_c
 simp [setOb, List.filter_cons, msC, tailC]
 refine callK_of (weights_Answer hK hm hl hb) (by simp [msC, tailC]) ?_
 unfold ansV
 by_cases h0 : psum m.parts = 0
 ·have own0 := own_Parts (l := []) (k := 1) (by omega) (by simp) (by simp)
  simp [h0, setOb, List.filter_cons]
  refine callK_of own0 (by simp) ?_
  simp
 ·have f2 : Fits (1 / psum m.parts) (2 + m.parts.length * (K + 1)) := (fits_divM fits_one fp (by omega)).mono (by omega)
  simp [h0, setOb, List.filter_cons]
  have q := 2 + m.parts.length * (K + 1) + K
  have ok : ∀ p ∈ sclP m.parts (1 / psum m.parts), p.v.Ok ∧ p.w.Ok (2 * (2 + m.parts.length * (K + 1) + K)) := fun p hp => by
   obtain ⟨x, hx, rfl⟩ := List.mem_map.1 hp
   exact ⟨(hm.parts x hx).1, rawOf_ok (fits_muls ((Raw.fits (hm.parts x hx).2 hK).mono (by omega)) (f2.mono (by omega)) (by omega))⟩
  have ln : (normP (sclP m.parts (1 / psum m.parts))).length ≤ 1000 := Nat.le_trans (normP_len _) (by simp [sclP]; exact hl)
  refine callK_of (own_Parts (l := normP (sclP m.parts (1 / psum m.parts))) (k := 2 ^ 33) (by omega) (by omega) fun p hp => ?_) (by simp) ?_
  ·obtain ⟨x, hx, e⟩ := normP_vals hp
   obtain ⟨y, hy, rfl⟩ := List.mem_map.1 hx
   refine ⟨e ▸ (hm.parts y hy).1, e ▸ hc y hy, ?_⟩
   rw [(normP_w hp).1]
   refine rawOf_ok ((wsum_fits (k := 2 * (2 + m.parts.length * (K + 1) + K)) (by omega) (fun z hz => Raw.fits (ok z hz).2 (by omega)) _).mono ?_)
   have : (sclP m.parts (1 / psum m.parts)).length * (2 * (2 + m.parts.length * (K + 1) + K) + 1) ≤ 1000 * 2004006 := Nat.mul_le_mul (by simp [sclP]; exact hl) (by omega)
   omega
  ·simp
end Go.Proofs.YtmjgehbpcchjpaaGreatDoor

namespace Go.Proofs.YtmjgehbpcchjpaaGreatDoor
open Go Go.Proofs Go.Proofs.YtmjgehbpcchjpaaGreatDoor.E
set_option linter.unusedSimpArgs false
set_option linter.unusedVariables false
def bndV (m : Ms) (v : Tr) : V :=
 if psum m.parts + m.lo.q = 0 then .tup [.agg [.bool false, .dat [], .dat []], .agg [.bool false, .dat [], .dat []], .int .i64 31]
 else .tup [ratV (wsum m.parts v / (psum m.parts + m.lo.q)), ratV ((wsum m.parts v + m.lo.q) / (psum m.parts + m.lo.q)), .int .i64 0]
theorem weights_Bounds {m : Ms} {v : Tr} {K : Nat} (hK : 1 ≤ K) (hm : m.Ok K) (hv : v.Ok) (hl : m.parts.length ≤ 1000) (hb : K ≤ 1000) : CallD Tryz.prog F.weights_Bounds [m.v, .agg v.cells] (· = bndV m v) := by
 have p1 : m.parts.length * (K + 1) ≤ 1000 * 1001 := Nat.mul_le_mul hl (by omega)
 have f1 : Fits (psum m.parts) (2 ^ 24) := (psum_fits hK hm.parts).mono (by omega)
 have f2 : Fits (wsum m.parts v) (2 ^ 24) := (wsum_fits hK (fun x hx => Raw.fits (hm.parts x hx).2 hK) v).mono (by omega)
 have f3 : Fits m.lo.q (2 ^ 24) := (Raw.fits hm.lo hK).mono (by omega)
 have f4 : Fits (psum m.parts + m.lo.q) (2 ^ 26) := (fits_add f1 f3).mono (by omega)
 have f5 : Fits (wsum m.parts v + m.lo.q) (2 ^ 26) := (fits_add f2 f3).mono (by omega)
 refine callD_by F.weights_Bounds_ok ?_
 unfold F.weights_Bounds_c bndV
 simp [setOb, List.filter_cons, msC, tailC]
 refine callFK_of (weights_Values hK (by omega) hm (by omega) (by omega)) (by simp [msC, tailC]) ?_
 simp [ratV, Raw.v]
 refine callFK_of (ratio_Add (rawOf_ok (f1.mono (by omega))) (rok hm.lo (by omega))) (by simp [Raw.v]) ?_
 rw [rawOf_q]
 simp [ratV, Raw.v]
 refine callFK_of (weights_Weight hK (by omega) hm hv (by omega) (by omega)) (by simp [msC, tailC, toD_cells]) ?_
 simp [ratV, Raw.v, setOb, List.filter_cons]
 refine callK_of (ratio_Div (rawOf_ok (f2.mono (by omega))) (rawOf_ok (f4.mono (by omega)))) (by simp [Raw.v]) ?_
 rw [rawOf_q, rawOf_q]
 by_cases h0 : psum m.parts + m.lo.q = 0
 ·simp [divR, h0, setOb, List.filter_cons]
 simp [divR, h0, ratV, Raw.v, setOb, List.filter_cons]
 refine callFK_of (ratio_Add (rawOf_ok (f2.mono (by omega))) (rok hm.lo (by omega))) (by simp [Raw.v]) ?_
 rw [rawOf_q]
 simp [ratV, Raw.v]
 refine callFK_of (ratio_Div (rawOf_ok (f5.mono (by omega))) (rawOf_ok (f4.mono (by omega)))) (by simp [Raw.v]) ?_
 rw [rawOf_q, rawOf_q]
 simp [divR, h0, ratV, Raw.v, setOb, List.filter_cons, offs, V.off]
theorem mass_Bounds {m : Ms} {v : Tr} {K : Nat} (hK : 1 ≤ K) (hm : m.Ok K) (hv : v.Ok) (hl : m.parts.length ≤ 1000) (hb : K ≤ 1000) : CallD Tryz.prog F.mass_Bounds [m.v, .agg v.cells] (· = bndV m v) := by
 refine callD_by F.mass_Bounds_ok ?_
 unfold F.mass_Bounds_c
 simp [setOb, List.filter_cons, msC, tailC]
 refine callK_of (weights_Bounds hK hm hv hl hb) (by simp [msC, tailC, toD_cells]) ?_
 unfold bndV
 by_cases h0 : psum m.parts + m.lo.q = 0
 ·simp [h0, setOb, List.filter_cons]
 ·simp [h0, ratV, Raw.v, setOb, List.filter_cons]
end Go.Proofs.YtmjgehbpcchjpaaGreatDoor
