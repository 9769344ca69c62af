/- MassSums, over data. -/
import Derived.Test.YtmjgehbpcchjpaaGreatDoorIJ
import Derived.Test.YtmjgehbpcchjpaaGreatDoorIE
namespace Go.Proofs.YtmjgehbpcchjpaaGreatDoor.F
open Go Go.Proofs Go.Proofs.YtmjgehbpcchjpaaGreatDoor.E Go.Proofs.YtmjgehbpcchjpaaGreatDoor.Q
abbrev law04_MassSums : Nat := 3
def law04_MassSums_c : MFn := ⟨91,(.seq (r [o 5 (.box (.t 2)),o 6 (.mv (.c (.bool false)))] [0,1,5]) (.seq (.seq (r [o 11 (.mv (.t 0)),o 12 (.lenS (.t 11)),o 13 (.bin .gtr (.t 12) (i 8)),o 14 (.mv (.t 13)),n 15 14 (.mv (.t 1)),n 16 14 (.lenS (.t 15)),n 17 14 (.bin .gtr (.t 16) (i 9)),o 18 (.pick (.t 14) (.c (.bool true)) (.t 17)),o 19 (.mv (.t 18)),n 20 19 (.mv (.t 0)),n 21 19 (.call 14 [(.t 20)]),n 22 19 (.un .not (.t 21)),o 23 (.pick (.t 19) (.c (.bool true)) (.t 22)),o 24 (.mv (.t 23)),n 25 24 (.ld (some 3) (.t 5)),n 26 24 (.buildSl 3 1 zR [(0,(.t 25))]),n 27 24 (.call 15 [(.t 26)]),n 28 24 (.un .not (.t 27)),o 29 (.pick (.t 24) (.c (.bool true)) (.t 28))] [0,1,5,29]) (.cond (.t 29) (.seq (r [o 30 (.call 16 []),o 6 (.mv (.t 30))] [6]) .ret) .skip)) (.seq (r [o 32 (.mv (.t 0)),o 33 (.mv (.t 1)),o 34 (.call 17 [(.t 32),(.t 33)]),o 31 (.mv (.t 34)),o 35 (.ext (.t 31) 0),o 36 (.ext (.t 31) 1),o 7 (.alloc zM),z (.st 16 (.t 7) (.t 35)),o 8 (.mv (.t 36))] [0,1,5,7,8]) (.seq (r [o 38 (.mv (.t 0)),o 39 (.mv (.t 1)),o 40 (.call 18 [(.t 38),(.t 39)]),o 37 (.mv (.t 40)),o 41 (.ext (.t 37) 0),o 42 (.ext (.t 37) 1),o 9 (.alloc zM),z (.st 16 (.t 9) (.t 41)),o 10 (.mv (.t 42))] [0,5,7,8,9,10]) (.seq (.seq (r [o 43 (.mv (.t 8)),o 44 (.mv (.t 10)),o 45 (.bin .neq (.t 43) (.t 44)),o 46 (.mv (.t 45)),n 47 46 (.mv (.t 8)),n 48 46 (.bin .eql (.t 47) (i 0)),n 49 46 (.mv (.t 48)),y 50 49 (.ld (some 16) (.t 7)),y 51 49 (.ld (some 16) (.t 9)),y 52 49 (.call 19 [(.t 50),(.t 51)]),y 53 49 (.un .not (.t 52)),n 54 46 (.pick (.t 49) (.t 53) (.c (.bool false))),o 55 (.pick (.t 46) (.c (.bool true)) (.t 54))] [0,5,55]) (.cond (.t 55) (.seq (r [o 6 (.mv (.c (.bool false)))] [6]) .ret) .skip)) (.seq (.seq (r [o 56 (.mv (.t 0)),o 57 (.lenS (.t 56)),o 58 (.bin .lss (.t 57) (i 2))] [0,5,58]) (.cond (.t 58) (.seq (r [o 59 (.call 16 []),o 6 (.mv (.t 59))] [6]) .ret) .skip)) (.seq (r [o 60 (.mv (.t 0)),o 61 (.ixA 16 (.t 60) (i 0)),o 62 (.ld (some 16) (.t 61)),o 63 (.mv (.t 0)),o 64 (.ixA 16 (.t 63) (i 1)),o 65 (.ld (some 16) (.t 64)),o 66 (.callF 20 [(.t 62),(.t 65)]),o 67 (.mv (.t 0)),o 68 (.ixA 16 (.t 67) (i 0)),o 69 (.ld (some 16) (.t 68)),o 70 (.mv (.t 0)),o 71 (.ixA 16 (.t 70) (i 1)),o 72 (.ld (some 16) (.t 71)),o 73 (.callF 21 [(.t 69),(.t 72)]),o 74 (.callF 19 [(.t 66),(.t 73)]),o 75 (.mv (.t 74)),y 76 75 (.mv (.t 0)),y 77 75 (.ixA 16 (.t 76) (i 0)),y 78 75 (.ld (some 16) (.t 77)),y 79 75 (.ld (some 3) (.t 5)),y 80 75 (.callF 22 [(.t 78),(.t 79)]),y 81 75 (.mv (.t 0)),y 82 75 (.ixA 16 (.t 81) (i 0)),y 83 75 (.ld (some 16) (.t 82)),y 84 75 (.ld (some 3) (.t 5)),y 85 75 (.callF 23 [(.t 83),(.t 84)]),y 86 75 (.callF 19 [(.t 80),(.t 85)]),o 87 (.pick (.t 75) (.t 86) (.c (.bool false))),o 88 (.mv (.t 87)),y 89 88 (.callF 16 []),o 90 (.pick (.t 88) (.t 89) (.c (.bool false))),o 6 (.mv (.t 90))] [6]) .ret))))))),[.t 6]⟩
theorem law04_MassSums_ok : cFn Tryz.prog (kps [[0,1,5],[0,1,5,29],[6],[0,1,5,7,8],[0,5,7,8,9,10],[0,5,55],[6],[0,5,58],[6],[6]]) [] 3 = some law04_MassSums_c := by kernel_rfl
end Go.Proofs.YtmjgehbpcchjpaaGreatDoor.F

namespace Go.Proofs.YtmjgehbpcchjpaaGreatDoor
open Go Go.Proofs Go.Proofs.YtmjgehbpcchjpaaGreatDoor.E
set_option linter.unusedSimpArgs false
set_option linter.unusedVariables false
theorem few_bd {m : Ms} {S : List Tr} (hm : m.Ok maxLen) (h : fewM m = true) (hS : ∀ p ∈ m.parts, p.v ∈ S) : Bd m 6 40 300 S := by
 have s := few_sml hm h
 have l1 := s.len
 have f : ∀ {y : Raw}, y.Ok 6 → Fits y.q 300 := fun hy => (Raw.fits hy (by omega)).mono (by omega)
 refine ⟨s.ok, s.len, s.cnt, hS, fun v => ?_, f s.ok.rf, f s.ok.lo, f s.ok.f0, f s.ok.f1, f s.ok.f2⟩
 exact (wsum_fits (k := 6) (by omega) (fun y hy => Raw.fits (s.ok.parts y hy).2 (by omega)) v).mono (by omega)
theorem mixN_ok {L : List (Ms × Rat)} {Kg ng Wg : Nat} {S : List Tr} (hL : ∀ x ∈ L, Bd x.1 Kg ng Wg S ∧ Fits x.2 2) (l8 : L.length ≤ 8) (w1 : 1 ≤ Wg) : Sml (normM (mixM L)) (1 + 8 * (Wg + 3)) (8 * ng) := by
 have hsum : ∀ (h : Ms → Rat), (∀ x ∈ L, Fits (h x.1) Wg) → Fits (sumBy (fun x : Ms × Rat => h x.1 * x.2) L) (1 + 8 * (Wg + 3)) := fun h hh => by
  have f := sumBy_fits (k := Wg + 2) (f := fun x : Ms × Rat => h x.1 * x.2) L fun x hx => fits_mul (hh x hx) (hL x hx).2 w1
  have := Nat.mul_le_mul_right (Wg + 2 + 1) l8
  exact f.mono (by omega)
 have hap : ∀ p ∈ (mixM L).parts, p.v.Ok ∧ cntT p.v ≤ 1000000 := fun p hp => by
  obtain ⟨l, hl, hp⟩ := List.mem_flatten.1 hp
  obtain ⟨x, hx, rfl⟩ := List.mem_map.1 hl
  obtain ⟨y, hy, e⟩ := normP_vals hp
  obtain ⟨z, hz, rfl⟩ := List.mem_map.1 hy
  have e' : z.v = p.v := e
  exact ⟨e' ▸ ((hL x hx).1.ok.parts z hz).1, e' ▸ (hL x hx).1.cnt z hz⟩
 have hlen : (mixM L).parts.length ≤ 8 * ng := by
  refine Nat.le_trans (flat_len (b := ng) fun x hx => ?_) (Nat.mul_le_mul_right _ l8)
  exact Nat.le_trans (normP_len _) (by simp only [sclP, List.length_map]; exact (hL x hx).1.len)
 have raw : ∀ (h : Ms → Rat), (∀ x ∈ L, Fits (h x.1) Wg) → (rawOf (rawOf (sumBy (fun x : Ms × Rat => h x.1 * x.2) L)).q).Ok (1 + 8 * (Wg + 3)) := fun h hh => by rw [rawOf_q]; exact rawOf_ok (hsum h hh)
 refine ⟨⟨fun p hp => ?_, raw (fun y => y.rf.q) fun x hx => (hL x hx).1.rf, raw (fun y => y.lo.q) fun x hx => (hL x hx).1.lo, raw (fun y => y.f0.q) fun x hx => (hL x hx).1.f0, raw (fun y => y.f1.q) fun x hx => (hL x hx).1.f1, raw (fun y => y.f2.q) fun x hx => (hL x hx).1.f2⟩, Nat.le_trans (normM_len _) hlen, normM_cnt fun p hp => (hap p hp).2⟩
 obtain ⟨y, hy, e⟩ := normP_vals hp
 refine ⟨e ▸ (hap y hy).1, ?_⟩
 rw [(normP_w hp).1, wsum_mixM]
 exact rawOf_ok (hsum (fun y => wsum y.parts p.v) fun x hx => (hL x hx).1.w _)
theorem mix_r {ms : List Ms} {odds : List Int} {S : List Tr} (hg : ∀ x ∈ ms, Bd x 6 40 300 S) (l8 : ms.length ≤ 8) (o8 : odds.length ≤ 8) (h0 : 0 < odds.length) (ho : ∀ x ∈ odds, 1 ≤ x ∧ x ≤ 1000) : MixR (ms.zip (oddsR odds)) := by
 obtain ⟨s1, s2⟩ := isum_bound ho
 have hw : ∀ x ∈ ms.zip (oddsR odds), Bd x.1 6 40 300 S ∧ Fits x.2 2 := fun x hx => by
  obtain ⟨h1, h2⟩ := List.of_mem_zip hx
  refine ⟨hg _ h1, ?_⟩
  obtain ⟨n, hn, e⟩ := List.mem_map.1 h2
  rw [← e]
  have := ho n hn
  exact fits_mkRat' (digs_length_le (by omega)) (digs_length_le (by omega)) (by omega)
 have lz : (ms.zip (oddsR odds)).length ≤ 8 := by rw [List.length_zip]; omega
 have hs : ∀ x ∈ ms.zip (oddsR odds), (rawOf x.2).Ok 6 := fun x hx => rawOf_ok ((hw x hx).2.mono (by omega))
 have sm : ∀ x ∈ ms.zip (oddsR odds), Sml (normM (sclM x.1 x.2)) 600 40 := fun x hx => by
  obtain ⟨b, f⟩ := hw x hx
  have k := sclM_ok (K := 6) (by omega) b.ok (hs x hx)
  rw [rawOf_q] at k
  exact ((Sml.mk k (by rw [sclM_len]; exact b.len) (sclM_cnt b.cnt)).norm (by omega)).mono (by omega) (by omega)
 refine ⟨fun x hx => ?_, fun i hi => ?_⟩
 ·obtain ⟨b, f⟩ := hw x hx
  have key := ref04_Scale (m := x.1) (w := rawOf x.2) (K := 6) (by omega) b.ok (hs x hx) (by have := b.len; omega) (by omega) b.cnt
  rw [rawOf_q] at key
  exact key
 ·have a := mixN_ok (L := (ms.zip (oddsR odds)).take i) (fun x hx => hw x (List.mem_of_mem_take hx)) (by rw [List.length_take]; omega) (by omega)
  have b := sm _ (List.getElem_mem hi)
  exact ref04_Add (K := 3000) (by omega) (by omega) (a.ok.mono (by omega)) (b.ok.mono (by omega)) (by have := a.len; omega) (by have := b.len; omega) a.cnt b.cnt
set_option maxHeartbeats 16000000 in
theorem massSums_law {l0 l1 : List (List V)} {l2 : List V} (h0 : ∃ n, Typed Tryz.prog n T.masses [.dat l0]) (h1 : ∃ n, Typed Tryz.prog n T.ints [.dat l1]) (h2 : ∃ n, Typed Tryz.prog n T.ratio l2) : CallD Tryz.prog F.law04_MassSums [.dat l0, .dat l1, .agg l2] (· = .bool true) := by
 obtain ⟨l, rfl, ll, hl⟩ := read_masses h0
 obtain ⟨os, eo, lo, ho⟩ := read_ilV h1
 have eo' : l1 = os.map fun x => [V.int .i64 x] := by injection eo
 subst eo'
 obtain ⟨_, h2⟩ := h2
 obtain ⟨w, rfl, hw⟩ := read_raw h2
 clear h0 h1 h2 eo
 simp only [List.length_map] at lo
 refine callD_by F.law04_MassSums_ok ?_
 unfold F.law04_MassSums_c
 have e16 : ∀ m : Ms, List.take 16 (msC m) = msC m := fun m => by simp [msC, tailC]
 have l16 : ∀ m : Ms, (msC m).length = 16 := fun m => by simp [msC, tailC]
 have d16 : ∀ m : Ms, List.drop 16 (msC m) = [] := fun m => by simp [msC, tailC]
 have rm : ∀ (m : Ms) (σ : Sto) (n : Nat), (msC m).flatMap (rch σ n) = [] := fun m => rch_msC
 have tD : ∀ (m : Ms) (σ : Sto) (n : Nat), mapO (toD σ (n + 1)) (msC m) = some (msC m) := fun m σ n => by simp [msC, tailC]
 by_cases c3 : (8 : Int) < (l.length : Int)
 ·simp [c3, setOb, List.filter_cons, e16, l16]
  refine callK_of law04_awake (by simp) ?_
  simp
 by_cases c4 : (9 : Int) < (os.length : Int)
 ·simp [c3, c4, setOb, List.filter_cons, e16, l16]
  refine callK_of law04_awake (by simp) ?_
  simp
 simp [c3, c4, setOb, List.filter_cons, e16, l16]
 refine callK_of (law04_Few (l := l) (by omega) hl) (by simp) ?_
 cases c6 : l.all fewM with
 | false =>
   simp [setOb, List.filter_cons]
   refine callK_of law04_awake (by simp) ?_
   simp
 | true =>
 simp [setOb, List.filter_cons]
 refine callK_of (law04_short (l := [w]) (by simp)) (by
  simp
  rw [toD_refM (k := 11) (es := 3) (st := .own) (l := [w.c]) (by simp [getOb, E.look]) (by simp) (by simp) (by simp; exact toD_rawc _ _ _)]) ?_
 cases c7 : shortR 6 w with
 | false =>
   simp [c7, setOb, List.filter_cons]
   refine callK_of law04_awake (by simp) ?_
   simp
 | true =>
 have ow := short_raw hw c7
 simp [c7, setOb, List.filter_cons]
 have sl : ∀ x ∈ l, Sml x 6 40 := fun x hx => few_sml (hl x hx).1 (List.all_eq_true.1 c6 x hx)
 have bd : ∀ x ∈ l, Bd x 6 40 300 (valsM l) := fun x hx => few_bd (hl x hx).1 (List.all_eq_true.1 c6 x hx) (fun p hp => List.mem_flatten.2 ⟨_, List.mem_map.2 ⟨_, hx, rfl⟩, List.mem_map.2 ⟨p, hp, rfl⟩⟩)
 have t3 : ∀ x : Raw, List.take 3 x.c = x.c := fun x => by simp [Raw.c]
 have good : oddsOk l os = true → (MixOk l os (300 + 2) ∧ (normM (mixM (l.zip (oddsR os)))).Ok (2 ^ 31) ∧ ∀ p ∈ (mixM (l.zip (oddsR os))).parts, cntT p.v ≤ 1000000) ∧ MixR (l.zip (oddsR os)) ∧ Sml (normM (mixM (l.zip (oddsR os)))) 3000 320 := fun g => by
  have hh : l.length = os.length ∧ os ≠ [] ∧ ∀ x ∈ os, 1 ≤ x ∧ x ≤ 1000 := by
   unfold oddsOk at g
   simp at g
   exact ⟨g.1.1, g.1.2, g.2⟩
  obtain ⟨g1, g2, g3⟩ := hh
  have g4 := List.length_pos_iff.2 g2
  obtain ⟨k1, k2, k3⟩ := mix_ok (Kg := 6) (ng := 40) (Wg := 300) bd (by omega) (by omega) g1 (by omega) g3 (by omega) (by omega) (by omega) (by omega) (by omega)
  exact ⟨⟨k1, k2.ok.mono (by omega), k3⟩, mix_r bd (by omega) (by omega) g4 g3, k2.mono (by omega) (by omega)⟩
 have tI : ∀ σ : Sto, toDs σ [.dat (l.map msC), .dat (os.map fun x => [V.int .i64 x])] = some [.dat (l.map msC), ilV os] := fun σ => by simp [ilV]
 refine callK_of (mass_Mix (J := 300 + 2) (by omega) (by omega) ho fun g => (good g).1) (tI _) ?_
 have mr := ref04_Mix (ms := l) (odds := os) (by omega) (by omega) ho fun g => (good g).2.1
 rcases mixV_cases l os with ⟨g, e⟩ | ⟨g, e⟩ <;> rw [e] at mr ⊢
 ·simp [ms0, r00, e16, l16, setOb, List.filter_cons]
  refine callK_of mr (tI _) ?_
  simp [ms0, r00, e16, l16, setOb, List.filter_cons]
  clear good e g mr tI
  rcases l with _ | ⟨a, _ | ⟨b, r⟩⟩
  ·simp [setOb, List.filter_cons]
   refine callK_of law04_awake (by simp) ?_
   simp
  ·simp [setOb, List.filter_cons]
   refine callK_of law04_awake (by simp) ?_
   simp
  have sa := sl a (by simp)
  have sb := sl b (by simp)
  have n2 : ¬ ((r.length : Int) + 1 + 1 < 2) := by omega
  obtain ⟨ad, ads⟩ := sa.add sb (by omega) (by omega) (by omega) (by omega)
  obtain ⟨sc, scs⟩ := sa.scl ow (by omega) (by omega) (by omega)
  have adr := ref04_Add (K := 6) (by omega) (by omega) sa.ok sb.ok (by have := sa.len; omega) (by have := sb.len; omega) sa.cnt sb.cnt
  have scr := ref04_Scale (K := 6) (by omega) sa.ok ow (by have := sa.len; omega) (by omega) sa.cnt
  simp [n2, e16, l16, d16, t3, setOb, List.filter_cons]
  intro _
  refine callFK_of ad (by simp [tD]) ?_
  simp [rm, e16, l16, d16, t3, setOb, List.filter_cons]
  refine callFK_of adr (by simp [tD]) ?_
  simp [rm, e16, l16, d16, t3, setOb, List.filter_cons]
  refine callFK_of (law04_Alike (m := normM (addM a b)) (K := 2000) (by have := ads.len; omega) (by omega) (ads.ok.mono (by omega))) (by simp [tD]) ?_
  simp [rm, e16, l16, d16, t3, setOb, List.filter_cons]
  refine callFK_of sc (by simp [tD, toD_rawc]) ?_
  simp [rm, e16, l16, d16, t3, setOb, List.filter_cons]
  refine callFK_of scr (by simp [tD, toD_rawc, raw_v]) ?_
  simp [rm, e16, l16, d16, t3, setOb, List.filter_cons]
  refine callFK_of (law04_Alike (m := normM (sclM a w.q)) (K := 2000) (by have := scs.len; omega) (by omega) (scs.ok.mono (by omega))) (by simp [tD]) ?_
  simp [rm, e16, l16, d16, t3, setOb, List.filter_cons]
  refine callFK_of law04_awake (by simp) ?_
  simp
 ·obtain ⟨_, _, mo⟩ := good g
  simp [Ms.v, e16, l16, d16, setOb, List.filter_cons]
  refine callK_of mr (tI _) ?_
  simp [Ms.v, e16, l16, d16, setOb, List.filter_cons]
  refine callK_of (law04_Alike (m := normM (mixM (l.zip (oddsR os)))) (K := 3000) (by have := mo.len; omega) (by omega) mo.ok) (by simp [tD]) ?_
  simp [setOb, List.filter_cons]
  clear good e g mr tI mo
  rcases l with _ | ⟨a, _ | ⟨b, r⟩⟩
  ·simp [setOb, List.filter_cons]
   refine callK_of law04_awake (by simp) ?_
   simp
  ·simp [setOb, List.filter_cons]
   refine callK_of law04_awake (by simp) ?_
   simp
  have sa := sl a (by simp)
  have sb := sl b (by simp)
  have n2 : ¬ ((r.length : Int) + 1 + 1 < 2) := by omega
  obtain ⟨ad, ads⟩ := sa.add sb (by omega) (by omega) (by omega) (by omega)
  obtain ⟨sc, scs⟩ := sa.scl ow (by omega) (by omega) (by omega)
  have adr := ref04_Add (K := 6) (by omega) (by omega) sa.ok sb.ok (by have := sa.len; omega) (by have := sb.len; omega) sa.cnt sb.cnt
  have scr := ref04_Scale (K := 6) (by omega) sa.ok ow (by have := sa.len; omega) (by omega) sa.cnt
  simp [n2, e16, l16, d16, t3, setOb, List.filter_cons]
  intro _
  refine callFK_of ad (by simp [tD]) ?_
  simp [rm, e16, l16, d16, t3, setOb, List.filter_cons]
  refine callFK_of adr (by simp [tD]) ?_
  simp [rm, e16, l16, d16, t3, setOb, List.filter_cons]
  refine callFK_of (law04_Alike (m := normM (addM a b)) (K := 2000) (by have := ads.len; omega) (by omega) (ads.ok.mono (by omega))) (by simp [tD]) ?_
  simp [rm, e16, l16, d16, t3, setOb, List.filter_cons]
  refine callFK_of sc (by simp [tD, toD_rawc]) ?_
  simp [rm, e16, l16, d16, t3, setOb, List.filter_cons]
  refine callFK_of scr (by simp [tD, toD_rawc, raw_v]) ?_
  simp [rm, e16, l16, d16, t3, setOb, List.filter_cons]
  refine callFK_of (law04_Alike (m := normM (sclM a w.q)) (K := 2000) (by have := scs.len; omega) (by omega) (scs.ok.mono (by omega))) (by simp [tD]) ?_
  simp [rm, e16, l16, d16, t3, setOb, List.filter_cons]
  refine callFK_of law04_awake (by simp) ?_
  simp
end Go.Proofs.YtmjgehbpcchjpaaGreatDoor
