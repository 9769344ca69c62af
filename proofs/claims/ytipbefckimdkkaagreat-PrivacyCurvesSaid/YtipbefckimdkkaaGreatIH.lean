import Derived.Test.YtipbefckimdkkaaGreatIG
namespace Go.Proofs.YtipbefckimdkkaaGreat.F
open Go Go.Proofs Go.Proofs.YtipbefckimdkkaaGreat.E Go.Proofs.YtipbefckimdkkaaGreat.Q
abbrev privacy_rates : Nat := 62
def privacy_rates_c : MFn := ⟨46,(.seq (r [o 4 (.mv (.c .nils)),o 5 (.mv (.c (.bool false)))] [0,1]) (.seq (r [o 12 (.call 97 []),o 13 (.buildSl 3 1 zR [(0,(.t 12))]),o 6 (.mv (.t 13)),o 7 (.mv (.c (.bool true)))] [0,1,6,7]) (.seq (.seq (r [o 14 (.mv (.t 0)),o 15 (.lenS (.t 14)),o 16 (.mv (i 0))] [1,6,7,14,15,16]) (.block 0 (.loop (.seq (r [o 17 (.bin .lss (.t 16) (.t 15))] [1,6,7,14,15,16,17]) (.seq (.cond (.t 17) .skip (.exit 0)) (.seq (.block 1 (.seq (r [o 18 (.ixA 6 (.t 14) (.t 16)),o 19 (.ld (some 6) (.t 18)),o 9 (.alloc zP),z (.st 6 (.t 9) (.t 19))] [1,6,7,9,14,15,16]) (.seq (r [o 21 (.fA 3 (.t 9)),o 22 (.ld (some 3) (.t 21)),o 23 (.mv (.t 1)),o 24 (.fA 0 (.t 9)),o 25 (.ld (some 3) (.t 24)),o 26 (.callF 103 [(.t 23),(.t 25)]),o 27 (.callF 76 [(.t 22),(.t 26)]),o 20 (.mv (.t 27)),o 28 (.ext (.t 20) 0),o 29 (.ext (.t 20) 1),o 10 (.alloc zR),z (.st 3 (.t 10) (.t 28)),o 11 (.mv (.t 29))] [1,6,7,10,11,14,15,16]) (.seq (.seq (r [o 30 (.mv (.t 11)),o 31 (.bin .neq (.t 30) (i 0))] [1,6,7,10,14,15,16,31]) (.cond (.t 31) (.seq (r [o 7 (.mv (.c (.bool false)))] [1,6,7,14,15,16]) (.exit 1)) .skip)) (.seq (r [o 32 (.ld (some 3) (.t 10)),o 33 (.callF 97 []),o 34 (.callF 74 [(.t 32),(.t 33)]),o 35 (.bin .gtr (.t 34) (i 0))] [1,6,7,10,14,15,16,35]) (.cond (.t 35) (r [o 36 (.mv (.t 6)),o 37 (.ld (some 3) (.t 10)),o 38 (.buildSl 3 1 zR [(0,(.t 37))]),o 39 (.app 3 56 (.t 36) (.t 38)),o 6 (.mv (.t 39))] [1,6,7,14,15,16]) .skip)))))) (r [o 40 (.bin .add (.t 16) (i 1)),o 16 (.mv (.t 40))] [1,6,7,14,15,16]))))))) (.seq (r [o 41 (.mv (.t 6)),o 42 (.call 104 [(.t 41),(.c (.clo 74 []))])] [6,7]) (.seq (r [o 43 (.mv (.t 6)),o 44 (.call 105 [(.t 43),(.c (.clo 106 []))]),o 45 (.mv (.t 7)),o 4 (.mv (.t 44)),o 5 (.mv (.t 45))] [4,5]) .ret))))),[.t 4,.t 5]⟩
theorem privacy_rates_ok : cFn Tryz.prog (kps [[0,1],[0,1,6,7],[1,6,7,14,15,16],[1,6,7,14,15,16,17],[1,6,7,9,14,15,16],[1,6,7,10,11,14,15,16],[1,6,7,10,14,15,16,31],[1,6,7,14,15,16],[1,6,7,10,14,15,16,35],[1,6,7,14,15,16],[1,6,7,14,15,16],[6,7],[4,5]]) [] 62 = some privacy_rates_c := by kernel_rfl
abbrev privacy_Rate : Nat := 20
def privacy_Rate_c : MFn := ⟨28,(.seq (r [o 4 (.alloc zR),o 5 (.mv (i 0))] [0,1,4]) (.seq (.seq (r [o 8 (.mv (.t 0)),o 9 (.mv (.t 1)),o 10 (.call 50 [(.t 8),(.t 9)]),o 11 (.un .not (.t 10))] [0,1,4,11]) (.cond (.t 11) (.seq (r [o 12 (.build zR []),z (.st 3 (.t 4) (.t 12)),o 5 (.mv (i 1))] [4,5]) .ret) .skip)) (.seq (r [o 14 (.mv (.t 0)),o 15 (.mv (.t 1)),o 16 (.call 62 [(.t 14),(.t 15)]),o 13 (.mv (.t 16)),o 17 (.ext (.t 13) 0),o 18 (.ext (.t 13) 1),o 6 (.mv (.t 17)),o 7 (.mv (.t 18))] [4,6,7]) (.seq (.seq (r [o 19 (.mv (.t 7)),o 20 (.un .not (.t 19))] [4,6,20]) (.cond (.t 20) (.seq (r [o 21 (.build zR []),z (.st 3 (.t 4) (.t 21)),o 5 (.mv (i 3))] [4,5]) .ret) .skip)) (.seq (r [o 22 (.mv (.t 6)),o 23 (.mv (.t 6)),o 24 (.lenS (.t 23)),o 25 (.bin .sub (.t 24) (i 1)),o 26 (.ixA 3 (.t 22) (.t 25)),o 27 (.ld (some 3) (.t 26)),z (.st 3 (.t 4) (.t 27)),o 5 (.mv (i 0))] [4,5]) .ret))))),[.cell 4 (some 3),.t 5]⟩
theorem privacy_Rate_ok : cFn Tryz.prog (kps [[0,1,4],[0,1,4,11],[4,5],[4,6,7],[4,6,20],[4,5],[4,5]]) [] 20 = some privacy_Rate_c := by kernel_rfl
abbrev privacy_Curve : Nat := 22
def privacy_Curve_c : MFn := ⟨38,(.seq (r [o 4 (.mv (.c .nils)),o 5 (.mv (i 0))] [0,1]) (.seq (.seq (r [o 11 (.mv (.t 0)),o 12 (.mv (.t 1)),o 13 (.call 50 [(.t 11),(.t 12)]),o 14 (.un .not (.t 13))] [0,1,14]) (.cond (.t 14) (.seq (r [o 4 (.mv (.c .nils)),o 5 (.mv (i 1))] [4,5]) .ret) .skip)) (.seq (r [o 16 (.mv (.t 0)),o 17 (.mv (.t 1)),o 18 (.call 62 [(.t 16),(.t 17)]),o 15 (.mv (.t 18)),o 19 (.ext (.t 15) 0),o 20 (.ext (.t 15) 1),o 6 (.mv (.t 19)),o 7 (.mv (.t 20))] [0,1,6]) (.seq (r [o 8 (.mv (.c .nils))] [0,1,6,8]) (.seq (.seq (r [o 21 (.mv (.t 6)),o 22 (.lenS (.t 21)),o 23 (.mv (i 0))] [0,1,8,21,22,23]) (.block 0 (.loop (.seq (r [o 24 (.bin .lss (.t 23) (.t 22))] [0,1,8,21,22,23,24]) (.seq (.cond (.t 24) .skip (.exit 0)) (.seq (.block 1 (.seq (r [o 25 (.ixA 3 (.t 21) (.t 23)),o 26 (.ld (some 3) (.t 25)),o 10 (.alloc zR),z (.st 3 (.t 10) (.t 26))] [0,1,8,10,21,22,23]) (r [o 27 (.mv (.t 8)),o 28 (.ld (some 3) (.t 10)),o 29 (.mv (.t 0)),o 30 (.mv (.t 1)),o 31 (.ld (some 3) (.t 10)),o 32 (.callF 52 [(.t 29),(.t 30),(.t 31)]),o 33 (.build [.bool false,.nils,.nils,.bool false,.nils,.nils] [(0,3,(.t 28)),(3,3,(.t 32))]),o 34 (.buildSl 6 1 [.bool false,.nils,.nils,.bool false,.nils,.nils] [(0,(.t 33))]),o 35 (.app 6 112 (.t 27) (.t 34)),o 8 (.mv (.t 35))] [0,1,8,21,22,23]))) (r [o 36 (.bin .add (.t 23) (i 1)),o 23 (.mv (.t 36))] [0,1,8,21,22,23]))))))) (.seq (r [o 37 (.mv (.t 8)),o 4 (.mv (.t 37)),o 5 (.mv (i 0))] [4,5]) .ret)))))),[.t 4,.t 5]⟩
theorem privacy_Curve_ok : cFn Tryz.prog (kps [[0,1],[0,1,14],[4,5],[0,1,6],[0,1,6,8],[0,1,8,21,22,23],[0,1,8,21,22,23,24],[0,1,8,10,21,22,23],[0,1,8,21,22,23],[0,1,8,21,22,23],[4,5]]) [] 22 = some privacy_Curve_c := by kernel_rfl
end Go.Proofs.YtipbefckimdkkaaGreat.F

namespace Go.Proofs.YtipbefckimdkkaaGreat
open Go Go.Proofs Go.Proofs.YtipbefckimdkkaaGreat.E
set_option linter.unusedSimpArgs false
set_option linter.unusedVariables false
def ratesQ (a b : List Part) : List Rat := cmpctQ ((prgQ a b).mergeSort fun x y => decide (x ≤ y))
theorem srtQ_merge (l : List Rat) : SrtQ (l.mergeSort fun x y => decide (x ≤ y)) := by
 have h := List.pairwise_mergeSort (le := fun (x y : Rat) => decide (x ≤ y)) (fun a b c h1 h2 => by simp at *; exact Rat.le_trans h1 h2) (fun a b => by simp; exact Rat.le_total) l
 exact h.imp fun h => by simpa using h
theorem ratesQ_rts (a b : List Part) : RtsQ (rtsQ a b) (ratesQ a b) := by
 refine ⟨cmpctQ_asc (srtQ_merge _), fun x => ?_⟩
 unfold ratesQ
 rw [cmpctQ_mem, ← prgQ_mem]
 exact (List.mergeSort_perm _ _).mem_iff
theorem RtsQ.uniq {l R S : List Rat} (h : RtsQ l R) (g : RtsQ l S) : R = S := AscQ.ext h.asc g.asc fun x => by rw [h.mem, g.mem]
theorem prgQ_len (a b : List Part) : (prgQ a b).length ≤ a.length + 1 := by
 unfold prgQ
 have h1 := List.length_filter_le (fun r => decide (1 < r)) (rtsQ a b)
 have h2 := rtsQ_len a b
 simp; omega
theorem rt_fits {a b : List Part} (ga : Good a) (gb : Good b) {p : Part} (hp : p ∈ a) : Fits (p.w.q / wtQ b p.v) 2000000 := (fits_div (Raw.fits (ga.ok p hp).w (by omega)) (wtQ_fits gb.ok p.v) (by omega)).mono (by omega)
theorem prg_fits {a b : List Part} (ga : Good a) (gb : Good b) : ∀ x ∈ prgQ a b, Fits x 2000000 := fun x hx => by
 rcases prgQ_mem.1 hx with rfl | ⟨hx, _⟩
 ·exact fits_one.mono (by omega)
 ·obtain ⟨p, hp, e⟩ := List.mem_filterMap.1 hx
  by_cases h0 : wtQ b p.v = 0
  ·simp [h0] at e
  ·simp [h0] at e
   rw [← e]; exact rt_fits ga gb hp
theorem toD_refP {σ : Sto} {o n k es : Nat} {st : St} {l t : List (List V)} (h : E.look σ o = some ⟨st, es, l ++ t⟩) (hs : st ≠ .dead) (he : es ≠ 0) (hl : l.length = n) (hd : ∀ r ∈ l, mapO (toD σ k) r = some r) : toD σ (k + 1) (.ref o 0 n) = some (.dat l) := by
 show (match getOb σ o with | some x => if 0 + n ≤ x.cells.length ∧ x.es ≠ 0 then (mapO (mapO (toD σ k)) ((x.cells.drop 0).take n)).map V.dat else none | none => none) = _
 simp only [getOb, h, hs, if_false]
 subst hl
 have e : mapO (mapO (toD σ k)) l = some l := mapO_id hd
 simp [he, e]
theorem cmpR_up {a b : Rat} : 0 < cmpR a b ↔ b < a := by have := cmpR_le (a := a) (b := b); grind
theorem sortK {σ : Sto} {o : Nat} {l : List Rat} (hl : l.length ≤ 12) (hO : ∀ x ∈ l, (rawOf x).Ok (2 ^ 33)) (ho : E.look σ o = some (obK (l.map kq))) (hs : Shut σ) :
 CallX Tryz.prog F.slices_SortFunc_Ratio_Ratio [.ref o 0 l.length, cmpRC] σ
  (fun v s => v = .tup [] ∧ ∃ m : List Rat, s = setOb σ o (obK (m.map kq)) ∧ m.Perm l ∧ SrtQ m) := by
 have h := sort_funcR (σ := σ) (o := o) (L := l.map rawOf) (by simpa using hl) (fun x hx => by
  obtain ⟨y, hy, rfl⟩ := List.mem_map.1 hx
  exact hO y hy) (by rw [ho]; simp only [obK, obR, List.map_map]; rfl) hs
 rw [List.length_map] at h
 refine h.mono ?_
 rintro v s ⟨rfl, M, rfl, hp, hS⟩
 have e : M.map Raw.c = (M.map Raw.q).map kq := by
  rw [List.map_map]
  refine List.map_congr_left fun x hx => ?_
  obtain ⟨y, _, rfl⟩ := List.mem_map.1 (hp.mem_iff.1 hx)
  show (rawOf y).c = (rawOf (rawOf y).q).c
  rw [rawOf_q]
 have e2 : (l.map rawOf).map Raw.q = l := by
  rw [List.map_map]
  exact (List.map_congr_left fun r _ => rawOf_q r).trans (List.map_id _)
 refine ⟨rfl, M.map Raw.q, ?_, ?_, hS.map⟩
 ·simp only [obR, e]
 ·have := hp.map Raw.q
  rwa [e2] at this
set_option maxHeartbeats 8000000 in
theorem privacy_rates {a b : List Part} (ga : Good a) (gb : Good b) (la : a.length ≤ 11) : CallD Tryz.prog F.privacy_rates [pl a, pl b] (· = .tup [.dat ((ratesQ a b).map kq), .bool (allQ a b)]) := by
 have lb := gb.le
 refine callD_by F.privacy_rates_ok ?_
 unfold F.privacy_rates_c
 simp [setOb, List.filter_cons]
 refine callK_of ratio_One (by simp) ?_
 simp [setOb, List.filter_cons, ratV, raw_v]
 refine wm_loop (fun g : Nat × Nat => ((((((Sl.empty.set 16 (.int .i64 g.2)).set 15 (.int .i64 a.length)).set 14 (pl a)).set 7 (.bool (allQ (a.take g.2) b))).set 6 (.ref g.1 0 (prgQ (a.take g.2) b).length)).set 1 (pl b), [(g.1, obK ((prgQ (a.take g.2) b).map kq))]))
  (fun g => g.2 ≤ a.length) (fun g => a.length - g.2) (0, 0) (by simp) ?_ ?_
 ·refine weak_obs ?_ (by simp [prgQ, rtsQ, kq]) (by repeat (first | exact sin_empty | refine sin_set (by simp [V.within]) ?_)) ?_
  ·simp [prgQ, rtsQ, allQ]
   repeat (first | exact sub_empty | refine sub_set (by simp) ?_)
  ·simp [prgQ, rtsQ]
   exact fun y hy => kq_in _ y hy _
 rintro ⟨o, i⟩ hi
 dsimp only at hi
 by_cases h1 : i < a.length
 ·have okp := ga.ok a[i] (List.getElem_mem h1)
  have hpg := prgQ_take (b := b) h1
  have hal := allQ_take (b := b) h1
  have hpl : (prgQ (a.take i) b).length ≤ 60 := by
   have := prgQ_len (a.take i) b
   rw [List.length_take] at this; omega
  simp [h1, setOb, List.filter_cons]
  refine callFK_of (privacy_weight (by omega) (fun p hp => (gb.ok p hp).v) okp.v gb.rise gb.norm) (by simp [toD_cells]) ?_
  simp [ratV, raw_v]
  have fw := wtQ_fits gb.ok a[i].v
  have frt := rt_fits ga gb (List.getElem_mem h1)
  refine callFK_of (ratio_Div (okp.w.mono (by omega)) (rawOf_ok (fw.mono (by omega)))) (by simp [toD_rawc, raw_v]) ?_
  rw [rawOf_q]
  unfold divR
  by_cases h0 : wtQ b a[i].v = 0
  ·simp [h0] at hpg hal
   simp (disch := omega) [h0, setOb, List.filter_cons, Nat.max_eq_right, Nat.max_eq_left, if_neg, if_pos]
   rw [wrap64 (by omega) (by omega)]
   refine ⟨(o, i + 1), h1, by dsimp only; omega, ?_⟩
   dsimp only
   rw [hpg, hal]
   refine weak_obs ?_ (by simp <;> omega) (by repeat (first | exact sin_empty | refine sin_set (by simp [V.within]) ?_)) ?_
   ·repeat (first | exact sub_empty | refine sub_set (by simp) ?_)
   ·simp
    exact fun r hr y hy => kq_in _ y hy _
  ·have hal' : allQ (a.take (i + 1)) b = allQ (a.take i) b := by rw [hal]; simp [h0]
   simp (disch := omega) [h0, setOb, List.filter_cons, Nat.max_eq_right, Nat.max_eq_left, if_neg, if_pos, ratV, raw_v]
   refine callFK_of ratio_One (by simp) ?_
   simp [ratV, raw_v]
   refine callFK_of (ratio_Compare (rawOf_ok (frt.mono (by omega))) (rawOf_ok (fits_one.mono (by omega)))) (by simp [toD_rawc, raw_v]) ?_
   rw [rawOf_q, rawOf_q]
   simp (disch := omega) [setOb, List.filter_cons, Nat.max_eq_right, Nat.max_eq_left, if_neg, if_pos]
   by_cases h1' : 1 < a[i].w.q / wtQ b a[i].v
   ·have hc : 0 < cmpR (a[i].w.q / wtQ b a[i].v) 1 := by rw [cmpR_up]; exact h1'
    have hc' : ¬ cmpR (a[i].w.q / wtQ b a[i].v) 1 ≤ 0 := by omega
    rw [if_pos ⟨h0, h1'⟩] at hpg
    simp (disch := omega) [hc, hc', setOb, List.filter_cons, Nat.max_eq_right, Nat.max_eq_left, if_neg, if_pos]
    rw [wrap64 (by omega) (by omega)]
    refine ⟨(o + 1 + 1 + 1 + 1, i + 1), h1, by dsimp only; omega, ?_⟩
    dsimp only
    rw [hpg, hal', List.length_append, List.map_append]
    refine weak_obs ?_ (by simp <;> first | rfl | omega) (by repeat (first | exact sin_empty | refine sin_set (by simp [V.within]) ?_)) ?_
    ·repeat (first | exact sub_empty | refine sub_set (by simp) ?_)
    ·simp
     rintro r (⟨q, _, rfl⟩ | rfl) y hy <;> exact kq_in _ y hy _
   ·have hc : ¬ 0 < cmpR (a[i].w.q / wtQ b a[i].v) 1 := by rw [cmpR_up]; exact h1'
    have hc' : cmpR (a[i].w.q / wtQ b a[i].v) 1 ≤ 0 := by omega
    rw [if_neg (fun h => h1' h.2), List.append_nil] at hpg
    simp (disch := omega) [hc, hc', setOb, List.filter_cons, Nat.max_eq_right, Nat.max_eq_left, if_neg, if_pos]
    rw [wrap64 (by omega) (by omega)]
    refine ⟨(o, i + 1), h1, by dsimp only; omega, ?_⟩
    dsimp only
    rw [hpg, hal']
    refine weak_obs ?_ (by simp <;> omega) (by repeat (first | exact sin_empty | refine sin_set (by simp [V.within]) ?_)) ?_
    ·repeat (first | exact sub_empty | refine sub_set (by simp) ?_)
    ·simp
     exact fun r hr y hy => kq_in _ y hy _
 ·have hil : i = a.length := by omega
  subst hil
  simp [h1]
  have hlen := prgQ_len a b
  have hok : ∀ x ∈ prgQ a b, (rawOf x).Ok (2 ^ 33) := fun x hx => rawOf_ok ((prg_fits ga gb x hx).mono (by omega))
  have hsh : ∀ W, RowsK W → Shut [(o, obK W)] := fun W hW => shut_of (by simp; exact fun r hr y hy => hW.plain r hr y hy _)
  refine callK_X (sortK (l := prgQ a b) (by omega) hok (by simp [E.look]) (hsh _ (rowsK_map _))) ?_
  rintro r s ⟨rfl, m, rfl, hp, hS⟩
  have em : cmpctQ m = ratesQ a b := RtsQ.uniq (l := rtsQ a b) ⟨cmpctQ_asc hS, fun x => by rw [cmpctQ_mem, ← prgQ_mem]; exact hp.mem_iff⟩ (ratesQ_rts a b)
  simp [setOb, List.filter_cons]
  rw [← hp.length_eq]
  refine callK_X (compactR (l := m) (by rw [hp.length_eq]; omega) (fun x hx => hok x (hp.mem_iff.1 hx)) (by simp [E.look]) (hsh _ (rowsK_map _))) ?_
  rintro r s ⟨rfl, n, rfl⟩
  rw [em]
  simp [setOb, List.filter_cons]
  rw [toD_refP (k := 10) (st := .own) (es := 3) (l := (ratesQ a b).map kq) (t := List.replicate n z3) (by simp [E.look]) (by simp) (by simp) (by simp) (fun r hr => by
   obtain ⟨q, _, rfl⟩ := List.mem_map.1 hr
   exact kq_toD _ _ _)]
end Go.Proofs.YtipbefckimdkkaaGreat

namespace Go.Proofs.YtipbefckimdkkaaGreat
open Go Go.Proofs Go.Proofs.YtipbefckimdkkaaGreat.E
set_option linter.unusedSimpArgs false
set_option linter.unusedVariables false
theorem wtQ_fitsK {l : List Part} {K : Nat} (h1 : 1 ≤ K) (ho : ∀ p ∈ l, p.Ok K) (v : Tr) : Fits (wtQ l v) K := by
 unfold wtQ
 split
 ·rename_i p h
  exact Raw.fits (ho p (List.mem_of_find?_eq_some h)).w h1
 ·exact fits_zero.mono h1
theorem rts_mem {a b : List Part} {x : Rat} (h : x ∈ rtsQ a b) : ∃ p ∈ a, x = p.w.q / wtQ b p.v := by
 obtain ⟨p, hp, e⟩ := List.mem_filterMap.1 h
 by_cases h0 : wtQ b p.v = 0
 ·simp [h0] at e
 ·simp [h0] at e
  exact ⟨p, hp, e.symm⟩
abbrev Sm (l : List Part) : Prop := ∀ p ∈ l, p.Ok 400000
theorem Sm.ok {l : List Part} (h : Sm l) : ∀ p ∈ l, p.Ok 1000000 := fun p hp => (h p hp).mono (by omega)
theorem rts_fits {a b : List Part} (sa : Sm a) (sb : Sm b) {x : Rat} (h : x ∈ rtsQ a b) : Fits x 800000 := by
 obtain ⟨p, hp, rfl⟩ := rts_mem h
 exact (fits_div (Raw.fits (sa p hp).w (by omega)) (wtQ_fitsK (by omega) sb p.v) (by omega)).mono (by omega)
theorem rates_mem {a b : List Part} {x : Rat} (h : x ∈ ratesQ a b) : x = 1 ∨ x ∈ rtsQ a b ∧ 1 < x := ((ratesQ_rts a b).mem x).1 h
theorem rates_fits {a b : List Part} (sa : Sm a) (sb : Sm b) {x : Rat} (h : x ∈ ratesQ a b) : Fits x 800000 := by
 rcases rates_mem h with rfl | ⟨h, _⟩
 ·exact fits_one.mono (by omega)
 ·exact rts_fits sa sb h
theorem rates_one {a b : List Part} {x : Rat} (h : x ∈ ratesQ a b) : 1 ≤ x := by
 rcases rates_mem h with rfl | ⟨_, h⟩
 ·exact Rat.le_refl
 ·exact Rat.le_of_lt h
theorem rates_len (a b : List Part) : (ratesQ a b).length ≤ a.length + 1 := by
 unfold ratesQ
 refine Nat.le_trans cmpctQ_len ?_
 rw [List.length_mergeSort]
 exact prgQ_len a b
theorem rates_pos (a b : List Part) : 0 < (ratesQ a b).length := List.length_pos_iff.2 (ratesQ_rts a b).ne
theorem maxQ_fits {a b : List Part} (sa : Sm a) (sb : Sm b) : Fits (maxQ (rtsQ a b)) 800000 := by
 obtain ⟨_, _, h⟩ := maxQ_spec (l := rtsQ a b) (m := 1)
 rcases h with h | h
 ·unfold maxQ; rw [h]; exact fits_one.mono (by omega)
 ·exact rts_fits sa sb h
def rateV (a b : List Part) : V := if rightP a && rightP b then (if allQ a b then .tup [ratV (maxQ (rtsQ a b)), .int .i64 0] else .tup [zeroA, .int .i64 3]) else .tup [zeroA, .int .i64 1]
theorem privacy_Rate {a b : List Part} (la : a.length ≤ 11) (lb : b.length ≤ 60) (sa : Sm a) (sb : Sm b) : CallD Tryz.prog F.privacy_Rate [pl a, pl b] (· = rateV a b) := by
 refine callD_by F.privacy_Rate_ok ?_
 unfold F.privacy_Rate_c rateV
 simp [setOb, List.filter_cons]
 refine callK_of (privacy_both (by omega) (by omega) sa.ok sb.ok) (by simp) ?_
 cases hra : rightP a with
 | false => simp [setOb, List.filter_cons]
 | true =>
 cases hrb : rightP b with
 | false => simp [setOb, List.filter_cons]
 | true =>
 simp
 refine callK_of (privacy_rates (good_of hra sa.ok) (good_of hrb sb.ok) la) (by simp) ?_
 cases hal : allQ a b with
 | false => simp [setOb, List.filter_cons]
 | true =>
 have hp := rates_pos a b
 have hl := (ratesQ_rts a b).last (by omega)
 have e1 : (((ratesQ a b).length : Int) - 1).toNat = (ratesQ a b).length - 1 := by omega
 have hn := rates_len a b
 simp
 rw [wrap64 (by omega) (by omega)]
 simp (disch := omega) [e1, if_pos, hp, setOb, List.filter_cons, hl, kq_toD, ratV, raw_v]
 rfl
theorem kq_take_app (r : Rat) (t : List V) : (kq r ++ t).take 3 = kq r := List.take_left' (kq_len r)
theorem kq_drop_app (r : Rat) (x y z : V) : (kq r ++ [x, y, z]).drop 6 = [] := List.drop_eq_nil_of_le (by simp)
attribute [simp] kq_take_app kq_drop_app
abbrev corQ (a b : List Part) (r : Rat) : Cor := ⟨rawOf r, rawOf (restQ a b r)⟩
def curveQ (a b : List Part) : List Cor := (ratesQ a b).map (corQ a b)
def curveV (a b : List Part) : V := if rightP a && rightP b then .tup [cl (curveQ a b), .int .i64 0] else .tup [.dat [], .int .i64 1]
theorem corc_within (c : Cor) : ∀ y ∈ corC c, ∀ p : Nat → Bool, y.within p = true := fun y hy p => by
 rcases List.mem_append.1 hy with h | h <;> exact rawc_within _ y h
theorem privacy_Curve {a b : List Part} (la : a.length ≤ 11) (lb : b.length ≤ 60) (sa : Sm a) (sb : Sm b) : CallD Tryz.prog F.privacy_Curve [pl a, pl b] (· = curveV a b) := by
 refine callD_by F.privacy_Curve_ok ?_
 unfold F.privacy_Curve_c curveV
 simp [setOb, List.filter_cons]
 refine callK_of (privacy_both (by omega) (by omega) sa.ok sb.ok) (by simp) ?_
 cases hra : rightP a with
 | false => simp [setOb, List.filter_cons]
 | true =>
 cases hrb : rightP b with
 | false => simp [setOb, List.filter_cons]
 | true =>
 have ga := good_of hra sa.ok
 have gb := good_of hrb sb.ok
 have hn := rates_len a b
 have hlen : (curveQ a b).length = (ratesQ a b).length := by simp [curveQ]
 simp
 refine callK_of (privacy_rates ga gb la) (by simp) ?_
 simp
 refine wm_loop (fun g : Nat × Nat => ((((((Sl.empty.set 23 (.int .i64 g.2)).set 22 (.int .i64 (ratesQ a b).length)).set 21 (.dat ((ratesQ a b).map kq))).set 8 (grown g.1 g.2)).set 1 (pl b)).set 0 (pl a), grownS g.1 6 g.2 (((curveQ a b).map corC).take g.2)))
  (fun g => g.2 ≤ (ratesQ a b).length) (fun g => (ratesQ a b).length - g.2) (0, 0) (by simp) ?_ ?_
 ·refine weak_obs ?_ (by simp [grown_zero, grownS_zero]) (by repeat (first | exact sin_empty | refine sin_set (by simp [grown_zero]) ?_)) (by simp [grown_zero, grownS_zero])
  simp only [grown_zero]
  repeat (first | exact sub_empty | refine sub_set (by simp) ?_)
 rintro ⟨o, i⟩ hi
 dsimp only at hi
 have hw : ∀ n, ∀ r ∈ List.take n ((curveQ a b).map corC), ∀ y ∈ r, ∀ p : Nat → Bool, y.within p = true := fun n r hr y hy p => by
  obtain ⟨x, _, rfl⟩ := List.mem_map.1 (List.mem_of_mem_take hr)
  exact corc_within _ y hy p
 by_cases h1 : i < (ratesQ a b).length
 ·have okr : (rawOf (ratesQ a b)[i]).Ok 1000000 := rawOf_ok ((rates_fits sa sb (List.getElem_mem h1)).mono (by omega))
  have e1 : List.take (i + 1) ((curveQ a b).map corC) = List.take i ((curveQ a b).map corC) ++ [corC (corQ a b (ratesQ a b)[i])] := by
   rw [List.take_succ_eq_append_getElem (by simpa [hlen] using h1)]; simp [curveQ]
  have hrest := privacy_rest ga gb okr
  rw [rawOf_q] at hrest
  by_cases hi0 : i = 0
  ·subst hi0
   simp at e1
   simp [h1, grown_zero, grownS_zero, setOb, List.filter_cons]
   refine callFK_of hrest (by simp [toD_rawc, raw_v, kq_toD]; rfl) ?_
   simp [setOb, List.filter_cons, ratV, raw_v]
   refine ⟨(2, 1), h1, by dsimp only; omega, ?_⟩
   refine weak_obs ?_ ?_ (by simp only [grown_pos (show 1 ≠ 0 by omega)]; repeat (first | exact sin_empty | refine sin_set (by simp [grownS_pos]) ?_)) ?_
   ·simp only [grown_pos (show 1 ≠ 0 by omega)]
    repeat (first | exact sub_empty | refine sub_set (by first | (simp; done) | (simp; rw [wrap64 (by omega) (by omega)])) ?_)
   ·simp [grownS_pos, e1, corC, kq]
   ·simp only [grownS_pos (show 1 ≠ 0 by omega)]
    intro p hp r hr y hy
    simp at hp; subst hp
    exact hw _ r hr y hy _
  ·simp (disch := omega) [h1, grown_pos hi0, grownS_pos hi0, setOb, List.filter_cons, Nat.max_eq_right, Nat.max_eq_left, if_neg, if_pos]
   refine callFK_of hrest (by simp [toD_rawc, raw_v, kq_toD]; rfl) ?_
   simp (disch := omega) [setOb, List.filter_cons, ratV, raw_v, Nat.max_eq_right, Nat.max_eq_left, if_neg, if_pos]
   rw [wrap64 (by omega) (by omega)]
   refine ⟨(o + 3, i + 1), h1, by dsimp only; omega, ?_⟩
   refine weak_obs ?_ ?_ (by simp only [grown_pos (show i + 1 ≠ 0 by omega)]; repeat (first | exact sin_empty | refine sin_set (by simp [grownS_pos]) ?_)) ?_
   ·simp only [grown_pos (show i + 1 ≠ 0 by omega)]
    repeat (first | exact sub_empty | refine sub_set (by simp) ?_)
   ·simp [grownS_pos, e1, corC, kq]
   ·simp only [grownS_pos (show i + 1 ≠ 0 by omega)]
    intro p hp r hr y hy
    simp at hp; subst hp
    exact hw _ r hr y hy _
 ·have hil : i = (ratesQ a b).length := by omega
  subst hil
  simp [h1]
  rw [toD_grown (k := 10) (st := .own) (es := 6) (l := (curveQ a b).map corC) ?_ (by simp) (by simp) (by simp [hlen]) (fun r hr => by
   obtain ⟨c, _, rfl⟩ := List.mem_map.1 hr
   exact toD_corC _ _ _)]
  intro h0
  rw [grownS_pos h0]
  simp [E.look]
  rw [List.take_of_length_le (by simp [hlen])]
end Go.Proofs.YtipbefckimdkkaaGreat
