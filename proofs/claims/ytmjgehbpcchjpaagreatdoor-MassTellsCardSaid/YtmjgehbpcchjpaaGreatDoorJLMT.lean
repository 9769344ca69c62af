/- MassTells, over data. -/
import Derived.Test.YtmjgehbpcchjpaaGreatDoorHP
import Derived.Test.YtmjgehbpcchjpaaGreatDoorGQ
import Derived.Test.YtmjgehbpcchjpaaGreatDoorHQ
import Derived.Test.YtmjgehbpcchjpaaGreatDoorGC
import Derived.Test.YtmjgehbpcchjpaaGreatDoorProg
import Derived.KernelRfl
/- Functions of the program, as the engine reads them; each is held against the translation. -/
namespace Go.Proofs.YtmjgehbpcchjpaaGreatDoor.F
open Go Go.Proofs Go.Proofs.YtmjgehbpcchjpaaGreatDoor.E Go.Proofs.YtmjgehbpcchjpaaGreatDoor.Q
abbrev law04_MassTells : Nat := 9
def law04_MassTells_c : MFn :=
  ⟨72,(.seq (r [o 3 (.box (.t 0)),o 4 (.box (.t 1)),o 5 (.box (.t 2)),o 6 (.mv (.c (.bool false)))] [3,4,5]) (.seq (.seq (r [o 7 (.ld (some 16) (.t 3)),o 8 (.buildSl 16 1 [.nils,.bool false,.nils,.nils,
  .bool false,.nils,.nils,.bool false,.nils,.nils,.bool false,.nils,.nils,.bool false,.nils,.nils] [(0,(.t 7))]),o 9 (.call 14 [(.t 8)]),o 10 (.un .not (.t 9)),o 11 (.mv (.t 10)),
  n 12 11 (.fA 2 (.t 4)),n 13 11 (.ld (some 3) (.t 12)),n 14 11 (.buildSl 3 1 [.int .i64 0,.int .i64 0,.nils] [(0,(.t 13))]),n 15 11 (.call 24 [(i 200),(.t 14)]),n 16 11 (.un .not (.t 15)),
  o 17 (.pick (.t 11) (.c (.bool true)) (.t 16)),o 18 (.mv (.t 17)),n 19 18 (.ld (some 3) (.t 5)),n 20 18 (.buildSl 3 1 [.bool false,.nils,.nils] [(0,(.t 19))]),n 21 18 (.call 15 [(.t 20)]),
  n 22 18 (.un .not (.t 21)),o 23 (.pick (.t 18) (.c (.bool true)) (.t 22))] [3,4,5,23]) (.cond (.t 23) (.seq (r [o 24 (.call 16 []),o 6 (.mv (.t 24))] [6]) .ret) .skip))
  (.seq (.seq (r [o 25 (.ld (some 16) (.t 3)),o 26 (.callF 37 [(.t 25)]),o 27 (.ld (some 16) (.t 3)),o 28 (.callF 35 [(.t 27)]),o 29 (.binB .neq (.t 26) (.t 28)),o 30 (.mv (.t 29)),
  n 31 30 (.callF 38 []),n 32 30 (.callF 49 []),n 33 30 (.callF 19 [(.t 31),(.t 32)]),n 34 30 (.un .not (.t 33)),o 35 (.pick (.t 30) (.c (.bool true)) (.t 34)),o 36 (.mv (.t 35)),
  n 37 36 (.ld (some 5) (.t 4)),n 38 36 (.ld (some 3) (.t 5)),n 39 36 (.callF 50 [(.t 37),(.t 38)]),n 40 36 (.ld (some 5) (.t 4)),n 41 36 (.ld (some 3) (.t 5)),n 42 36 (.callF 51 [(.t 40),(.t 41)]),
  n 43 36 (.callF 19 [(.t 39),(.t 42)]),n 44 36 (.un .not (.t 43)),o 45 (.pick (.t 36) (.c (.bool true)) (.t 44))] [3,4,45]) (.cond (.t 45) (.seq (r [o 6 (.mv (.c (.bool false)))] [6]) .ret) .skip))
  (.seq (r [o 46 (.ld (some 16) (.t 3)),o 47 (.callF 42 [(.t 46)]),o 48 (.ld (some 16) (.t 3)),o 49 (.callF 52 [(.t 48)]),o 50 (.callF 30 [(.t 47),(.t 49)]),o 51 (.mv (.t 50)),y 52 51 (.ld (some 16)
  (.t 3)),y 53 51 (.callF 44 [(.t 52)]),y 54 51 (.ld (some 16) (.t 3)),y 55 51 (.callF 53 [(.t 54)]),y 56 51 (.callF 30 [(.t 53),(.t 55)]),o 57 (.pick (.t 51) (.t 56) (.c (.bool false))),
  o 58 (.mv (.t 57)),y 59 58 (.ld (some 16) (.t 3)),y 60 58 (.fA 2 (.t 4)),y 61 58 (.ld (some 3) (.t 60)),y 62 58 (.callF 54 [(.t 59),(.t 61)]),y 63 58 (.ld (some 16) (.t 3)),y 64 58 (.fA 2 (.t 4)),
  y 65 58 (.ld (some 3) (.t 64)),y 66 58 (.callF 55 [(.t 63),(.t 65)]),y 67 58 (.callF 30 [(.t 62),(.t 66)]),o 68 (.pick (.t 58) (.t 67) (.c (.bool false))),o 69 (.mv (.t 68)),y 70 69 (.callF 16 []),
  o 71 (.pick (.t 69) (.t 70) (.c (.bool false))),o 6 (.mv (.t 71))] [6]) .ret)))),[.t 6]⟩
theorem law04_MassTells_ok : cFn Tryz.prog (kps [[3,4,5],[3,4,5,23],[6],[3,4,45],[6],[6]]) [] 9 = some law04_MassTells_c := by kernel_rfl
end Go.Proofs.YtmjgehbpcchjpaaGreatDoor.F

namespace Go.Proofs.YtmjgehbpcchjpaaGreatDoor
open Go Go.Proofs Go.Proofs.YtmjgehbpcchjpaaGreatDoor.E
set_option linter.unusedSimpArgs false
set_option linter.unusedVariables false
theorem read_listM {n : Nat} {vs : List V} (h : Typed Tryz.prog n T.parts vs) : ∃ ps : List Part, vs = [pl ps] ∧ ps.length ≤ maxLen ∧ ∀ p ∈ ps, p.Ok maxLen := by
  have h0 := h
  obtain ⟨l, rfl, _⟩ := E.typed_sl (e := T.part) (by kernel_rfl) h
  obtain ⟨ps, rfl, h1, h2⟩ := read_parts ⟨n, h0⟩
  exact ⟨ps, rfl, h1, h2⟩
theorem read_mass {n : Nat} {l : List V} (h : Typed Tryz.prog n T.mass l) : ∃ m : Ms, l = msC m ∧ m.Ok maxLen ∧ m.parts.length ≤ maxLen := by
  obtain ⟨_, _, h⟩ := E.typed_st (l := [T.parts, T.ratio, T.ratio, T.rat3]) (by kernel_rfl) h
  obtain ⟨a, y, rfl, ha, h⟩ := E.all_cons h
  obtain ⟨b, z, rfl, hb, h⟩ := E.all_cons h
  obtain ⟨c, w, rfl, hc, h⟩ := E.all_cons h
  obtain ⟨d, u, rfl, hd, h⟩ := E.all_cons h
  have := E.all_nil h
  subst this
  obtain ⟨_, _, hd⟩ := E.typed_ar (m := 3) (e := T.ratio) (by kernel_rfl) hd
  obtain ⟨f0, y0, rfl, hf0, hd⟩ := E.all_cons hd
  obtain ⟨f1, y1, rfl, hf1, hd⟩ := E.all_cons hd
  obtain ⟨f2, y2, rfl, hf2, hd⟩ := E.all_cons hd
  have := E.all_nil hd
  subst this
  obtain ⟨ps, rfl, a1, a2⟩ := read_listM ha
  obtain ⟨rf, rfl, k1⟩ := read_raw hb
  obtain ⟨lo, rfl, k2⟩ := read_raw hc
  obtain ⟨g0, rfl, k3⟩ := read_raw hf0
  obtain ⟨g1, rfl, k4⟩ := read_raw hf1
  obtain ⟨g2, rfl, k5⟩ := read_raw hf2
  exact ⟨⟨ps, rf, lo, g0, g1, g2⟩, rfl, ⟨fun p hp => ⟨(a2 p hp).v, (a2 p hp).w⟩, k1, k2, k3, k4, k5⟩, a1⟩
theorem read_out {n : Nat} {l : List V} (h : Typed Tryz.prog n T.out l) : ∃ (k j : Int) (v : Tr), l = .int .i64 k :: .int .i64 j :: v.cells ∧ v.Ok := by
  obtain ⟨_, _, h⟩ := E.typed_st (l := [T.int, T.int, T.value]) (by kernel_rfl) h
  obtain ⟨a, y, rfl, ha, h⟩ := E.all_cons h
  obtain ⟨b, z, rfl, hb, h⟩ := E.all_cons h
  obtain ⟨c, w, rfl, hc, h⟩ := E.all_cons h
  have := E.all_nil h
  subst this
  obtain ⟨k, rfl, hk⟩ := read_int ha
  obtain ⟨j, rfl, hj⟩ := read_int hb
  obtain ⟨v, rfl, hv⟩ := read_tree hc
  exact ⟨k, j, v, by simp, hv⟩
theorem short_raw {x : Raw} {k n : Nat} (hx : x.Ok k) (h : shortR n x = true) : x.Ok n := by
  simp [shortR] at h; exact ⟨hx.dn, hx.dd, h.1, h.2⟩
theorem few_ok {m : Ms} {k : Nat} (hm : m.Ok k) (h : fewM m = true) : m.Ok 6 ∧ m.parts.length ≤ 40 ∧ ∀ p ∈ m.parts, cntT p.v ≤ 200 := by
  simp only [fewM, Bool.and_eq_true, decide_eq_true_eq, List.all_eq_true] at h
  obtain ⟨⟨h1, h2⟩, h3⟩ := h
  refine ⟨⟨fun p hp => ⟨(hm.parts p hp).1, short_raw (hm.parts p hp).2 (h3 _ (by simp [Ms.ws]; exact Or.inr ⟨p, hp, rfl⟩))⟩, short_raw hm.rf (h3 _ (by simp [Ms.ws, Ms.five])), short_raw hm.lo (h3 _ (by simp [Ms.ws, Ms.five])), short_raw hm.f0 (h3 _ (by simp [Ms.ws, Ms.five])), short_raw hm.f1 (h3 _ (by simp [Ms.ws, Ms.five])), short_raw hm.f2 (h3 _ (by simp [Ms.ws, Ms.five]))⟩, h1, fun p hp => ?_⟩
  have := cntT_le (l := m.vs) (x := p.v) (List.mem_map.2 ⟨p, hp, rfl⟩)
  omega
theorem Ms.Ok.mono {m : Ms} {j k : Nat} (h : m.Ok j) (hk : j ≤ k) : m.Ok k :=
  ⟨fun p hp => ⟨(h.parts p hp).1, rok (h.parts p hp).2 hk⟩, rok h.rf hk, rok h.lo hk, rok h.f0 hk, rok h.f1 hk, rok h.f2 hk⟩
theorem rch_msC {m : Ms} (σ : Sto) (n : Nat) : (msC m).flatMap (rch σ n) = [] := by simp [msC, tailC]
theorem toD_msC (σ : Sto) (n : Nat) (m : Ms) : mapO (toD σ (n + 1)) (msC m) = some (msC m) := by simp [msC, tailC]
set_option maxHeartbeats 8000000 in
theorem massTells_law {l0 l1 l2 : List V} (h0 : ∃ n, Typed Tryz.prog n T.mass l0) (h1 : ∃ n, Typed Tryz.prog n T.out l1) (h2 : ∃ n, Typed Tryz.prog n T.ratio l2) : CallD Tryz.prog F.law04_MassTells [.agg l0, .agg l1, .agg l2] (· = .bool true) := by
  obtain ⟨_, h0⟩ := h0
  obtain ⟨_, h1⟩ := h1
  obtain ⟨_, h2⟩ := h2
  obtain ⟨m, rfl, hm, lm⟩ := read_mass h0
  obtain ⟨k, j, v, rfl, hv⟩ := read_out h1
  obtain ⟨w, rfl, hw⟩ := read_raw h2
  refine callD_by F.law04_MassTells_ok ?_
  unfold F.law04_MassTells_c
  have e16 : List.take 16 (msC m) = msC m := by simp [msC, tailC]
  have l16 : (msC m).length = 16 := by simp [msC, tailC]
  simp [setOb, List.filter_cons, e16, l16]
  have few := law04_Few (l := [m]) (by simp) (by simp; exact ⟨hm, lm⟩)
  simp at few
  refine callK_of few (by
    simp
    rw [toD_refM (k := 11) (es := 16) (st := .own) (l := [msC m]) (by simp [getOb, E.look]) (by simp) (by simp) (by simp; exact toD_msC _ _ _)]) ?_
  cases c1 : fewM m with
  | false =>
    simp [setOb, List.filter_cons]
    refine callK_of law04_awake (by simp) ?_
    simp
  | true =>
  obtain ⟨ok6, l40, cn⟩ := few_ok hm c1
  simp [setOb, List.filter_cons]
  refine callK_of (law03_Few (B := 200) (l := [v]) (by omega) (by simp) (by simpa using hv)) (by
    simp
    rw [toD_refM (k := 11) (es := 3) (st := .own) (l := [v.cells]) (by simp [getOb, E.look]) (by simp) (by simp) (by simp; exact toD_cells _ _ _)]
    rfl) ?_
  by_cases c2 : ¬ cntL [v] ≤ 200
  · simp [c2, setOb, List.filter_cons]
    refine callK_of law04_awake (by simp) ?_
    simp
  have c2 := Decidable.not_not.1 c2
  have cv : cntT v ≤ 200 := by have := cntT_le (l := [v]) (x := v) (by simp); omega
  simp [c2, setOb, List.filter_cons]
  refine callK_of (law04_short (l := [w]) (by simp)) (by
    simp
    rw [toD_refM (k := 11) (es := 3) (st := .own) (l := [w.c]) (by simp [getOb, E.look]) (by simp) (by simp) (by simp; exact toD_rawc _ _ _)]) ?_
  cases c3 : shortR 6 w with
  | false =>
    simp [c3, setOb, List.filter_cons]
    refine callK_of law04_awake (by simp) ?_
    simp
  | true =>
  have ow := short_raw hw c3
  have o33 : m.Ok (2 ^ 33) := ok6.mono (by omega)
  have rm := rch_msC (m := m)
  have p7 : m.parts.length * (6 + 1) ≤ 280 := by omega
  simp [c3, e16, l16, setOb, List.filter_cons]
  refine callFK_of (mass_Right o33 (by omega)) (by simp [toD_msC]) ?_
  simp [e16, l16]
  refine callFK_of (ref04_Right o33 (by omega)) (by simp [toD_msC]) ?_
  simp
  refine callFK_of mass_None (by simp) ?_
  simp
  refine callFK_of ref04_None (by simp) ?_
  simp
  refine callFK_of (law04_Alike (m := msN) (K := 6) (by simp [msN]) (by omega) ⟨by simp [msN], z_ok (by omega), z_ok (by omega), z_ok (by omega), z_ok (by omega), z_ok (by omega)⟩) (by simp [toD_msC]) ?_
  simp
  refine callFK_of (mass_Of (k := k) (n := j) (K := 6) (by omega) (by omega) hv (by omega) ow) (by simp [outV, toD_rawc, toD_cells, raw_v]) ?_
  simp
  refine callFK_of (ref04_Of (k := k) (n := j) (K := 6) (by omega) (by omega) hv (by omega) ow) (by simp [outV, toD_rawc, toD_cells, raw_v]) ?_
  simp
  have okO := onM_ok (k := k) (n := j) (K := 6) (by omega) hv ow
  have lnO := onM_len k j v w
  refine callFK_of (law04_Alike (m := normM (onM k j v w)) (K := 100) (by have := normM_len (onM k j v w); omega) (by omega) (normM_ok (by omega) okO (by have := mul_len (k := 6 + 1) lnO; omega) (by omega))) (by simp [toD_msC]) ?_
  have f1 : Fits (psum m.parts) 1000 := (psum_fits (by omega) ok6.parts).mono (by omega)
  have f2 : Fits (rsum [m.f0, m.f1, m.f2]) 1000 := (sumBy_fits (k := 6) (f := Raw.q) [m.f0, m.f1, m.f2] (by simp; exact ⟨Raw.fits ok6.f0 (by omega), Raw.fits ok6.f1 (by omega), Raw.fits ok6.f2 (by omega)⟩)).mono (by simp)
  have f3 : Fits (totQ m) 3000 := (fits_add (fits_add f1 f2) (fits_add (Raw.fits ok6.rf (by omega)) (Raw.fits ok6.lo (by omega)))).mono (by omega)
  have f4 : Fits (wsum m.parts v) 1000 := (wsum_fits (k := 6) (by omega) (fun x hx => Raw.fits (ok6.parts x hx).2 (by omega)) v).mono (by omega)
  simp [e16, l16, setOb, List.filter_cons]
  refine callFK_of (mass_Total (K := 6) (by omega) ok6 (by omega) (by omega)) (by simp [toD_msC]) ?_
  simp [ratV, raw_v, e16, l16, rm]
  refine callFK_of (ref04_Total (K := 6) (by omega) ok6 (by omega) (by omega)) (by simp [toD_msC]) ?_
  simp [ratV, raw_v, e16, l16, rm]
  refine callFK_of (law02_Same (rawOf_ok f3) (by omega)) (by simp [toD_rawc, raw_v]) ?_
  simp [e16, l16, rm]
  refine callFK_of (mass_Values (K := 6) (by omega) (by omega) ok6 (by omega) (by omega)) (by simp [toD_msC]) ?_
  simp [ratV, raw_v, e16, l16, rm]
  refine callFK_of (ref04_Values (K := 6) (by omega) (by omega) ok6 (by omega) (by omega)) (by simp [toD_msC]) ?_
  simp [ratV, raw_v, e16, l16, rm]
  refine callFK_of (law02_Same (rawOf_ok f1) (by omega)) (by simp [toD_rawc, raw_v]) ?_
  simp [e16, l16, rm]
  refine callFK_of (mass_Weight (K := 6) (by omega) (by omega) ok6 hv (by omega) (by omega)) (by simp [toD_msC, toD_cells]) ?_
  simp [ratV, raw_v, e16, l16, rm]
  refine callFK_of (ref04_Weight (K := 6) (by omega) (by omega) ok6 hv (by omega) (by omega)) (by simp [toD_msC, toD_cells]) ?_
  simp [ratV, raw_v, e16, l16, rm]
  refine callFK_of (law02_Same (rawOf_ok f4) (by omega)) (by simp [toD_rawc, raw_v]) ?_
  simp
  refine callFK_of law04_awake (by simp) ?_
  simp
end Go.Proofs.YtmjgehbpcchjpaaGreatDoor
