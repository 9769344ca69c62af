/- PrivacyAts, over data. -/
import Derived.Test.YtipbefckimdkkaaGreatHC
import Derived.Test.YtipbefckimdkkaaGreatGQ
import Derived.Test.YtipbefckimdkkaaGreatHB
/- Functions of the program, as the engine reads them; each is held against the translation. -/
namespace Go.Proofs.YtipbefckimdkkaaGreat.F
open Go Go.Proofs Go.Proofs.YtipbefckimdkkaaGreat.E Go.Proofs.YtipbefckimdkkaaGreat.Q
abbrev law36_PrivacyAts : Nat := 6
def law36_PrivacyAts_c : MFn :=
  ⟨71,(.seq (r [o 3 (.box (.t 1)),o 4 (.mv (.c (.bool false)))] [0,3]) (.seq (.seq (r [o 11 (.mv (.t 0)),o 12 (.lenS (.t 11)),o 13 (.bin .gtr (.t 12) (i 30)),o 14 (.mv (.t 13)),n 15 14 (.ld (some 3)
  (.t 3)),n 16 14 (.call 30 [(.t 15)]),n 17 14 (.un .not (.t 16)),o 18 (.pick (.t 14) (.c (.bool true)) (.t 17))] [0,3,18]) (.cond (.t 18) (.seq (r [o 4 (.mv (.c (.bool true)))] [4]) .ret) .skip))
  (.seq (r [o 5 (.mv (.c .nils))] [0,3,5]) (.seq (.seq (r [o 19 (.mv (.t 0)),o 20 (.lenS (.t 19)),o 21 (.mv (i 0))] [0,3,5,20,21]) (.block 0 (.loop (.seq (r [o 22 (.bin .lss (.t 21) (.t 20))] [0,3,5,
  20,21,22]) (.seq (.cond (.t 22) .skip (.exit 0)) (.seq (.block 1 (.seq (r [o 23 (.mv (.t 21)),o 6 (.mv (.t 23))] [0,3,5,6,20,21]) (.seq (.seq (r [o 24 (.mv (.t 0)),o 25 (.mv (.t 6)),
  o 26 (.ixA 6 (.t 24) (.t 25)),o 27 (.fA 0 (.t 26)),o 28 (.ld (some 3) (.t 27)),o 29 (.call 30 [(.t 28)]),o 30 (.un .not (.t 29)),o 31 (.mv (.t 30)),n 32 31 (.mv (.t 0)),n 33 31 (.mv (.t 6)),
  n 34 31 (.ixA 6 (.t 32) (.t 33)),n 35 31 (.fA 3 (.t 34)),n 36 31 (.ld (some 3) (.t 35)),n 37 31 (.call 30 [(.t 36)]),n 38 31 (.un .not (.t 37)),o 39 (.pick (.t 31) (.c (.bool true)) (.t 38))] [0,3,
  5,6,20,21,39]) (.cond (.t 39) (.seq (r [o 4 (.mv (.c (.bool true)))] [4]) .ret) .skip)) (r [o 40 (.mv (.t 5)),o 41 (.mv (.t 0)),o 42 (.mv (.t 6)),o 43 (.ixA 6 (.t 41) (.t 42)),o 44 (.ld (some 6)
  (.t 43)),o 45 (.buildSl 6 1 [.bool false,.nils,.nils,.bool false,.nils,.nils] [(0,(.t 44))]),o 46 (.app 6 112 (.t 40) (.t 45)),o 5 (.mv (.t 46))] [0,3,5,20,21])))) (r [o 47 (.bin .add (.t 21)
  (i 1)),o 21 (.mv (.t 47))] [0,3,5,20,21]))))))) (.seq (r [o 49 (.mv (.t 0)),o 50 (.ld (some 3) (.t 3)),o 51 (.call 31 [(.t 49),(.t 50)]),o 48 (.mv (.t 51)),o 52 (.ext (.t 48) 0),o 53 (.ext (.t 48)
  1),o 7 (.alloc [.bool false,.nils,.nils]),z (.st 3 (.t 7) (.t 52)),o 8 (.mv (.t 53))] [3,5,7,8]) (.seq (r [o 55 (.mv (.t 5)),o 56 (.ld (some 3) (.t 3)),o 57 (.call 32 [(.t 55),(.t 56)]),
  o 54 (.mv (.t 57)),o 58 (.ext (.t 54) 0),o 59 (.ext (.t 54) 1),o 9 (.alloc [.bool false,.nils,.nils]),z (.st 3 (.t 9) (.t 58)),o 10 (.mv (.t 59))] [7,8,9,10]) (.seq (r [o 60 (.mv (.t 8)),
  o 61 (.mv (.t 10)),o 62 (.bin .eql (.t 60) (.t 61)),o 63 (.mv (.t 62)),y 64 63 (.ld (some 3) (.t 7)),y 65 63 (.ld (some 3) (.t 9)),y 66 63 (.call 24 [(.t 64),(.t 65)]),o 67 (.pick (.t 63) (.t 66)
  (.c (.bool false))),o 68 (.mv (.t 67)),y 69 68 (.call 18 []),o 70 (.pick (.t 68) (.t 69) (.c (.bool false))),o 4 (.mv (.t 70))] [4]) .ret))))))),[.t 4]⟩
theorem law36_PrivacyAts_ok : cFn Tryz.prog (kps [[0,3],[0,3,18],[4],[0,3,5],[0,3,5,20,21],[0,3,5,20,21,22],[0,3,5,6,20,21],[0,3,5,6,20,21,39],[4],[0,3,5,20,21],[0,3,5,20,21],[3,5,7,8],[7,8,9,10],[4]]) [] 6 = some law36_PrivacyAts_c := by kernel_rfl
end Go.Proofs.YtipbefckimdkkaaGreat.F

namespace Go.Proofs.YtipbefckimdkkaaGreat
open Go Go.Proofs Go.Proofs.YtipbefckimdkkaaGreat.E
set_option linter.unusedSimpArgs false
set_option linter.unusedVariables false
theorem read_corner {n : Nat} {vs : List V} (h : Typed Tryz.prog n T.corner vs) : ∃ c : Cor, vs = corC c ∧ c.r.Ok maxLen ∧ c.s.Ok maxLen := by
  obtain ⟨m, _, h⟩ := E.typed_st (l := [T.ratio, T.ratio]) (by kernel_rfl) h
  obtain ⟨a, y, rfl, ha, h⟩ := E.all_cons h
  obtain ⟨b, z, rfl, hb, h⟩ := E.all_cons h
  have := E.all_nil h
  subst this
  obtain ⟨x, rfl, hx⟩ := read_raw ha
  obtain ⟨y, rfl, hy⟩ := read_raw hb
  exact ⟨⟨x, y⟩, by simp [corC], hx, hy⟩
theorem read_corners {l : List (List V)} (h : ∃ n, Typed Tryz.prog n T.corners [.dat l]) : ∃ cs : List Cor, l = cs.map corC ∧ cs.length ≤ maxLen ∧ ∀ c ∈ cs, c.r.Ok maxLen ∧ c.s.Ok maxLen := by
  obtain ⟨n, h⟩ := h
  obtain ⟨l', e, hl, m, _, h⟩ := E.typed_sl (e := T.corner) (by kernel_rfl) h
  injection e with e
  injection e with e
  subst e
  obtain ⟨cs, rfl, hc⟩ := E.list_of (f := corC) (p := fun c => c.r.Ok maxLen ∧ c.s.Ok maxLen) fun x hx => read_corner (h x hx)
  exact ⟨cs, rfl, by simpa using hl, hc⟩
theorem lerp_fits {c d : Cor} {x : Raw} {K : Nat} (k1 : 1 ≤ K) (hc : c.r.Ok K ∧ c.s.Ok K) (hd : d.r.Ok K ∧ d.s.Ok K) (hx : x.Ok K) : Fits (lerp c d x.q) (20 * K + 20) := by
  have f1 := fits_sub (Raw.fits hx k1) (Raw.fits hc.1 k1)
  have f2 := fits_sub (Raw.fits hd.1 k1) (Raw.fits hc.1 k1)
  have f3 := fits_div f1 f2 (by omega)
  have f4 := fits_sub (Raw.fits hd.2 k1) (Raw.fits hc.2 k1)
  have f5 := fits_mul f3 f4 (by omega)
  exact (fits_add (Raw.fits hc.2 k1) f5).mono (by omega)
theorem atV_fits {l : List Cor} {x : Raw} {v : Rat} {K : Nat} (k1 : 1 ≤ K) (ho : ∀ c ∈ l, c.r.Ok K ∧ c.s.Ok K) (hx : x.Ok K) (h : atV l x.q v) : Fits v (20 * K + 20) := by
  obtain ⟨m, hm, _, _, rfl⟩ := h
  split
  · exact lerp_fits k1 (ho _ (List.getElem_mem _)) (ho _ (List.getElem_mem _)) hx
  · exact (Raw.fits (ho _ (List.getElem_mem hm)).2 k1).mono (by omega)
set_option maxHeartbeats 8000000 in
theorem privacyAts_law {l0 : List (List V)} {l1 : List V} (h0 : ∃ n, Typed Tryz.prog n T.corners [.dat l0]) (h1 : ∃ n, Typed Tryz.prog n T.ratio l1) : CallD Tryz.prog F.law36_PrivacyAts [.dat l0, .agg l1] (· = .bool true) := by
  obtain ⟨l, rfl, hl, ho⟩ := read_corners h0
  obtain ⟨n, h1⟩ := h1
  obtain ⟨x, rfl, hx⟩ := read_raw h1
  refine callD_by F.law36_PrivacyAts_ok ?_
  unfold F.law36_PrivacyAts_c
  simp [setOb, List.filter_cons]
  by_cases hn : 30 < (l.length : Int)
  · simp [hn]
  have hn' : l.length ≤ 30 := by omega
  simp [hn]
  refine callK_of (law36_short (x := x)) (by simp [toD_rawc, raw_v]) ?_
  cases hs : shortB x with
  | false => simp
  | true =>
  have x3 := short_ok hx hs
  simp
  refine wm_loop (fun g : Nat × Nat => (((((Sl.empty.set 21 (.int .i64 g.2)).set 20 (.int .i64 l.length)).set 5 (grown g.1 g.2)).set 3 (.ptr 0 0 0)).set 0 (cl l), [(0, ⟨.own, 3, [x.c]⟩)] ++ grownS g.1 6 g.2 ((l.map corC).take g.2)))
    (fun g => g.2 ≤ l.length ∧ 0 < g.1 ∧ ∀ j (hj : j < l.length), j < g.2 → l[j].r.Ok 3 ∧ l[j].s.Ok 3) (fun g => l.length - g.2) (1, 0) ⟨by simp, by simp, fun j hj h => by simp at h⟩ ?_ ?_
  · refine weak_obs ?_ (by simp [grown_zero, grownS_zero]) (by repeat (first | exact sin_empty | refine sin_set (by simp [grown_zero]) ?_)) (by simp [grown_zero, grownS_zero]; exact fun y hy => rawc_within _ y hy)
    simp only [grown_zero]
    repeat (first | exact sub_empty | refine sub_set (by simp) ?_)
  rintro ⟨o, i⟩ ⟨hi, o0, hb⟩
  dsimp only at hi o0 hb
  have o0' : ¬ o = 0 := by omega
  have hw : ∀ n, ∀ r ∈ List.take n (l.map corC), ∀ y ∈ r, ∀ p : Nat → Bool, y.within p = true := fun n r hr y hy p => by
    obtain ⟨c, _, rfl⟩ := List.mem_map.1 (List.mem_of_mem_take hr)
    exact corC_within c y hy
  by_cases h1 : i < l.length
  · obtain ⟨q1, q2⟩ := ho _ (List.getElem_mem h1)
    have e1 : List.take (i + 1) (l.map corC) = List.take i (l.map corC) ++ [corC l[i]] := by
      rw [List.take_succ_eq_append_getElem (by simpa using h1)]; simp
    have tk : List.take 6 (corC l[i]) = corC l[i] := by simp
    by_cases hi0 : i = 0
    · subst hi0
      simp at e1
      simp [h1, grown_zero, grownS_zero, setOb, List.filter_cons]
      refine callK_of (law36_short (x := l[0].r)) (by simp [toD_rawc, raw_v]) ?_
      cases s1 : shortB l[0].r with
      | false => simp
      | true =>
      simp [h1]
      refine callK_of (law36_short (x := l[0].s)) (by simp [toD_rawc, raw_v]) ?_
      cases s2 : shortB l[0].s with
      | false => simp
      | true =>
      simp (disch := omega) [h1, grown_zero, grownS_zero, setOb, List.filter_cons]
      rw [wrap64 (by omega) (by omega)]
      refine ⟨(2, 1), ⟨h1, by simp, fun j hj hj1 => ?_⟩, by dsimp only; omega, ?_⟩
      · dsimp only at hj1
        obtain rfl : j = 0 := by omega
        exact ⟨short_ok q1 s1, short_ok q2 s2⟩
      refine weak_obs ?_ ?_ (by simp only [grown_pos (show 1 ≠ 0 by omega)]; repeat (first | exact sin_empty | refine sin_set (by simp [grownS_pos]) ?_)) ?_
      · simp only [grown_pos (show 1 ≠ 0 by omega)]
        repeat (first | exact sub_empty | refine sub_set (by simp) ?_)
      · simp [grownS_pos, e1]
      · simp only [grownS_pos (show 1 ≠ 0 by omega)]
        intro p hp r hr y hy
        simp at hp
        rcases hp with rfl | rfl
        · simp at hr; subst hr; exact rawc_within _ y hy
        · exact hw _ r hr y hy _
    · simp (disch := omega) [h1, grown_pos hi0, grownS_pos hi0, setOb, List.filter_cons, Nat.max_eq_right, Nat.max_eq_left, if_neg, if_pos]
      refine callK_of (law36_short (x := l[i].r)) (by simp [toD_rawc, raw_v]) ?_
      cases s1 : shortB l[i].r with
      | false => simp
      | true =>
      simp (disch := omega) [h1, setOb, List.filter_cons, Nat.max_eq_right, Nat.max_eq_left, if_neg, if_pos]
      refine callK_of (law36_short (x := l[i].s)) (by simp [toD_rawc, raw_v]) ?_
      cases s2 : shortB l[i].s with
      | false => simp
      | true =>
      simp (disch := omega) [h1, setOb, List.filter_cons, Nat.max_eq_right, Nat.max_eq_left, if_neg, if_pos]
      rw [wrap64 (by omega) (by omega)]
      refine ⟨(o + 2, i + 1), ⟨h1, by simp, fun j hj hj1 => ?_⟩, by dsimp only; omega, ?_⟩
      · dsimp only at hj1
        by_cases e : j = i
        · subst e; exact ⟨short_ok q1 s1, short_ok q2 s2⟩
        · exact hb j hj (by omega)
      refine weak_obs ?_ ?_ (by simp only [grown_pos (show i + 1 ≠ 0 by omega)]; repeat (first | exact sin_empty | refine sin_set (by simp [grownS_pos]) ?_)) ?_
      · simp only [grown_pos (show i + 1 ≠ 0 by omega)]
        repeat (first | exact sub_empty | refine sub_set (by simp) ?_)
      · simp [grownS_pos, e1, o0']
      · simp only [grownS_pos (show i + 1 ≠ 0 by omega)]
        intro p hp r hr y hy
        simp at hp
        rcases hp with rfl | rfl
        · simp at hr; subst hr; exact rawc_within _ y hy
        · exact hw _ r hr y hy _
  · have hil : i = l.length := by omega
    subst hil
    have ho3 : ∀ c ∈ l, c.r.Ok 3 ∧ c.s.Ok 3 := fun c hc => by
      obtain ⟨j, hj, rfl⟩ := List.getElem_of_mem hc
      exact hb j hj hj
    have et : List.take l.length (l.map corC) = l.map corC := List.take_of_length_le (by simp)
    rw [et] at *
    have zo : (⟨false, [], []⟩ : Raw).Ok (2 ^ 31) := ⟨fun _ h => by simp at h, fun _ h => by simp at h, by simp, by simp⟩
    have rz : (⟨false, [], []⟩ : Raw).v = .agg [.bool false, .dat [], .dat []] := rfl
    by_cases hne : l = []
    · subst hne
      simp [grown_zero, grownS_zero, setOb, List.filter_cons]
      refine callK_rel (privacy_At (K := 3) (by omega) (by omega) (by omega) ho3 x3) (by simp [toD_rawc, raw_v]) ?_
      rintro r hr
      rw [atR_no (by simp [cornersB])] at hr
      subst hr
      simp [setOb, List.filter_cons]
      refine callK_rel (ref36_At (l := []) (K := 3) (by omega) (by omega) (by simp) (by simp) x3) (by simp [toD_rawc, raw_v]) ?_
      rintro r hr
      rw [atR_no (by simp [cornersB])] at hr
      subst hr
      simp [setOb, List.filter_cons]
      refine callK_of (ref02_Same zo zo) (by simp [toD_rawc, rz]) ?_
      simp
      refine callK_of law36_alive (by simp) ?_
      simp
    have l0 : l.length ≠ 0 := fun h => hne (List.length_eq_zero_iff.1 h)
    have hD : ∀ σ : Sto, E.look σ o = some ⟨.own, 6, l.map corC⟩ → toD σ 12 (.ref o 0 l.length) = some (cl l) := fun σ h => by
      rw [← grown_pos (o := o) l0]
      exact toD_grown (k := 11) (fun _ => h) (by simp) (by simp) (by simp) (fun r hr => by obtain ⟨c, _, rfl⟩ := List.mem_map.1 hr; exact toD_corC _ _ _)
    have hR : ∀ σ : Sto, E.look σ o = some ⟨.own, 6, l.map corC⟩ → rch σ 12 (.ref o 0 l.length) = [o] := fun σ h => by
      have e : List.flatMap (fun r => List.flatMap (rch σ 11) r) (List.take l.length (List.drop 0 (l.map corC))) = [] := by
        rw [List.flatMap_eq_nil_iff]
        intro r hr
        rw [List.drop_zero] at hr
        rw [List.take_of_length_le (by simp)] at hr
        obtain ⟨c, _, rfl⟩ := List.mem_map.1 hr
        exact rch_corC σ 11 c
      have hg : getOb σ o = some ⟨.own, 6, l.map corC⟩ := by unfold getOb; rw [h]; rfl
      show (match getOb σ o with | some x => o :: ((x.cells.drop 0).take l.length).flatMap (fun r => r.flatMap (rch σ 11)) | none => []) = [o]
      rw [hg]
      show o :: List.flatMap (fun r => List.flatMap (rch σ 11) r) (List.take l.length (List.drop 0 (l.map corC))) = [o]
      rw [e]
    rw [grown_pos l0]
    rw [grownS_pos l0] at *
    simp (disch := omega) [h1, setOb, List.filter_cons, Nat.max_eq_right, Nat.max_eq_left, if_neg, if_pos]
    refine callK_rel (privacy_At (K := 3) (by omega) (by omega) (by omega) ho3 x3) (by simp [toD_rawc, raw_v]) ?_
    rintro r hr
    by_cases hc : (cornersB l && ratedB x) = true
    · have hc' := hc
      rw [Bool.and_eq_true] at hc'
      rw [atR_ok hc'.1 hc'.2] at hr
      obtain ⟨v, hv, rfl⟩ := hr
      have fv := atV_fits (by omega) ho3 x3 hv
      simp (disch := omega) [setOb, List.filter_cons, ratV, raw_v, Nat.max_eq_right, Nat.max_eq_left, if_neg, if_pos]
      refine callK_rel (ref36_At (K := 3) (by omega) (by omega) (by omega) ho3 x3) ?_ ?_
      · simp [toD_rawc, raw_v]
        rw [hD _ (by simp (disch := omega) [E.look, if_neg])]
      rintro r hr
      rw [atR_ok hc'.1 hc'.2] at hr
      obtain ⟨w, hw', rfl⟩ := hr
      obtain rfl := atV_uniq hv hw'
      rw [behind_eq]
      simp only [rchs, List.flatMap_cons, List.flatMap_nil, deep]
      rw [hR _ (by simp (disch := omega) [E.look, if_neg])]
      simp (disch := omega) [frz, setOb, List.filter_cons, ratV, raw_v, Nat.max_eq_right, Nat.max_eq_left, if_neg, if_pos]
      refine callK_of (ref02_Same (rawOf_ok (fv.mono (by omega))) (rawOf_ok (fv.mono (by omega)))) (by simp [toD_rawc, raw_v]) ?_
      simp
      refine callK_of law36_alive (by simp) ?_
      simp
    · have hc' : (cornersB l && ratedB x) = false := by simpa using hc
      rw [atR_no hc'] at hr
      subst hr
      simp (disch := omega) [setOb, List.filter_cons, Nat.max_eq_right, Nat.max_eq_left, if_neg, if_pos]
      refine callK_rel (ref36_At (K := 3) (by omega) (by omega) (by omega) ho3 x3) ?_ ?_
      · simp [toD_rawc, raw_v]
        rw [hD _ (by simp (disch := omega) [E.look, if_neg])]
      rintro r hr
      rw [atR_no hc'] at hr
      subst hr
      rw [behind_eq]
      simp only [rchs, List.flatMap_cons, List.flatMap_nil, deep]
      rw [hR _ (by simp (disch := omega) [E.look, if_neg])]
      simp (disch := omega) [frz, setOb, List.filter_cons, Nat.max_eq_right, Nat.max_eq_left, if_neg, if_pos]
      refine callK_of (ref02_Same zo zo) (by simp [toD_rawc, rz]) ?_
      simp
      refine callK_of law36_alive (by simp) ?_
      simp
end Go.Proofs.YtipbefckimdkkaaGreat
