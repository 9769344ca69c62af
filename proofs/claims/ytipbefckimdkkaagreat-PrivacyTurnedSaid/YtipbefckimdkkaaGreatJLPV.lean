/- PrivacyTurned, over data. -/
import Derived.Test.YtipbefckimdkkaaGreatJLPU
namespace Go.Proofs.YtipbefckimdkkaaGreat.F
open Go Go.Proofs Go.Proofs.YtipbefckimdkkaaGreat.E Go.Proofs.YtipbefckimdkkaaGreat.Q
abbrev law36_PrivacyTurned : Nat := 12
def law36_PrivacyTurned_c : MFn := ⟨102,(.seq (r [o 3 (.box (.t 0)),o 5 (.box (.t 2)),o 6 (.mv (.c (.bool false)))] [1,3,5]) (.seq (r [o 21 (.ixArr 2 1 (.t 3) (i 0)),o 22 (.ld none (.t 21)),o 23 (.ixArr 2 1 (.t 3) (i 1)),o 24 (.ld none (.t 23)),o 7 (.mv (.t 22)),o 8 (.mv (.t 24))] [1,5,7,8]) (.seq (.seq (r [o 25 (.mv (.t 7)),o 26 (.mv (.t 8)),o 27 (.ld (some 3) (.t 5)),o 28 (.call 13 [(.t 25),(.t 26),(.t 27)]),o 29 (.un .not (.t 28)),o 30 (.mv (.t 29)),n 31 30 (.mv (.t 1)),n 32 30 (.call 45 [(.t 31)]),n 33 30 (.un .not (.t 32)),o 34 (.pick (.t 30) (.c (.bool true)) (.t 33))] [1,5,7,8,34]) (.cond (.t 34) (.seq (r [o 6 (.mv (.c (.bool true)))] [6]) .ret) .skip)) (.seq (r [o 9 (.mv (.c .nils))] [1,5,7,8,9]) (.seq (.seq (r [o 35 (.mv (.t 7)),o 36 (.mv (.t 8)),o 37 (.call 26 [(.t 35),(.t 36)]),o 38 (.lenS (.t 37)),o 39 (.mv (i 0))] [1,5,7,8,9,37,38,39]) (.block 0 (.loop (.seq (r [o 40 (.bin .lss (.t 39) (.t 38))] [1,5,7,8,9,37,38,39,40]) (.seq (.cond (.t 40) .skip (.exit 0)) (.seq (.block 1 (.seq (r [o 41 (.ixA 3 (.t 37) (.t 39)),o 42 (.ld (some 3) (.t 41)),o 11 (.alloc zV),z (.st 3 (.t 11) (.t 42))] [1,5,7,8,9,11,37,38,39]) (r [o 43 (.mv (.t 9)),o 44 (.ld (some 3) (.t 11)),o 45 (.build zP [(0,3,(.t 44))]),o 46 (.buildSl 6 1 zP [(0,(.t 45))]),o 47 (.app 6 96 (.t 43) (.t 46)),o 9 (.mv (.t 47))] [1,5,7,8,9,37,38,39]))) (r [o 48 (.bin .add (.t 39) (i 1)),o 39 (.mv (.t 48))] [1,5,7,8,9,37,38,39]))))))) (.seq (r [o 49 (.mv (.t 9)),o 50 (.mv (.t 1)),o 51 (.build [.nils,.nils] [(0,1,(.t 49)),(1,1,(.t 50))]),o 12 (.alloc [.nils,.nils]),z (.st 2 (.t 12) (.t 51))] [5,7,8,12]) (.seq (r [o 53 (.mv (.t 7)),o 54 (.ld (some 2) (.t 12)),o 55 (.mkF (47 + bm) [(.t 54)]),o 56 (.call 46 [(.t 53),(.t 55)]),o 52 (.mv (.t 56)),o 57 (.ext (.t 52) 0),o 58 (.ext (.t 52) 1),o 13 (.mv (.t 57)),o 14 (.mv (.t 58))] [5,7,8,12,13,14]) (.seq (r [o 60 (.mv (.t 8)),o 61 (.ld (some 2) (.t 12)),o 62 (.mkF (47 + bm) [(.t 61)]),o 63 (.call 46 [(.t 60),(.t 62)]),o 59 (.mv (.t 63)),o 64 (.ext (.t 59) 0),o 65 (.ext (.t 59) 1),o 15 (.mv (.t 64)),o 16 (.mv (.t 65))] [5,7,8,13,14,15,16]) (.seq (.seq (r [o 66 (.mv (.t 14)),o 67 (.bin .neq (.t 66) (i 0)),o 68 (.mv (.t 67)),n 69 68 (.mv (.t 16)),n 70 68 (.bin .neq (.t 69) (i 0)),o 71 (.pick (.t 68) (.c (.bool true)) (.t 70))] [5,7,8,13,15,71]) (.cond (.t 71) (.seq (r [o 72 (.call 18 []),o 6 (.mv (.t 72))] [6]) .ret) .skip)) (.seq (r [o 74 (.mv (.t 7)),o 75 (.mv (.t 8)),o 76 (.ld (some 3) (.t 5)),o 77 (.call 14 [(.t 74),(.t 75),(.t 76)]),o 73 (.mv (.t 77)),o 78 (.ext (.t 73) 0),o 79 (.ext (.t 73) 1),o 17 (.alloc zR),z (.st 3 (.t 17) (.t 78)),o 18 (.mv (.t 79))] [5,13,15,17,18]) (.seq (r [o 81 (.mv (.t 13)),o 82 (.mv (.t 15)),o 83 (.ld (some 3) (.t 5)),o 84 (.call 14 [(.t 81),(.t 82),(.t 83)]),o 80 (.mv (.t 84)),o 85 (.ext (.t 80) 0),o 86 (.ext (.t 80) 1),o 19 (.alloc zR),z (.st 3 (.t 19) (.t 85)),o 20 (.mv (.t 86))] [17,18,19,20]) (.seq (r [o 87 (.mv (.t 18)),o 88 (.bin .eql (.t 87) (i 0)),o 89 (.mv (.t 88)),y 90 89 (.mv (.t 20)),y 91 89 (.bin .eql (.t 90) (i 0)),o 92 (.pick (.t 89) (.t 91) (.c (.bool false))),o 93 (.mv (.t 92)),y 94 93 (.ld (some 3) (.t 19)),y 95 93 (.ld (some 3) (.t 17)),y 96 93 (.call 16 [(.t 94),(.t 95)]),y 97 93 (.bin .leq (.t 96) (i 0)),o 98 (.pick (.t 93) (.t 97) (.c (.bool false))),o 99 (.mv (.t 98)),y 100 99 (.call 18 []),o 101 (.pick (.t 99) (.t 100) (.c (.bool false))),o 6 (.mv (.t 101))] [6]) .ret)))))))))))),[.t 6]⟩
theorem law36_PrivacyTurned_ok : cFn Tryz.prog (kps [[1,3,5],[1,5,7,8],[1,5,7,8,34],[6],[1,5,7,8,9],[1,5,7,8,9,37,38,39],[1,5,7,8,9,37,38,39,40],[1,5,7,8,9,11,37,38,39],[1,5,7,8,9,37,38,39],[1,5,7,8,9,37,38,39],[5,7,8,12],[5,7,8,12,13,14],[5,7,8,13,14,15,16],[5,7,8,13,15,71],[6],[5,13,15,17,18],[17,18,19,20],[6]]) [] 12 = some law36_PrivacyTurned_c := by kernel_rfl
end Go.Proofs.YtipbefckimdkkaaGreat.F

namespace Go.Proofs.YtipbefckimdkkaaGreat
open Go Go.Proofs Go.Proofs.YtipbefckimdkkaaGreat.E
set_option linter.unusedSimpArgs false
set_option linter.unusedVariables false
theorem read_parts2 {l : List V} (h : ∃ n, Typed Tryz.prog n T.parts2 l) : ∃ a b : List Part, l = [pl a, pl b] ∧ (a.length ≤ maxLen ∧ ∀ p ∈ a, p.Ok maxLen) ∧ (b.length ≤ maxLen ∧ ∀ p ∈ b, p.Ok maxLen) := by
 obtain ⟨n, h⟩ := h
 obtain ⟨m, _, h⟩ := E.typed_ar (m := 2) (e := T.parts) (by kernel_rfl) h
 obtain ⟨a, y, rfl, ha, h⟩ := E.all_cons h
 obtain ⟨b, z, rfl, hb, h⟩ := E.all_cons h
 have := E.all_nil h
 subst this
 obtain ⟨a, rfl, a1, a2⟩ := read_listP ha
 obtain ⟨b, rfl, b1, b2⟩ := read_listP hb
 exact ⟨a, b, rfl, ⟨a1, a2⟩, ⟨b1, b2⟩⟩
def bare (v : Tr) : Part := ⟨v, ⟨false, [], []⟩⟩
def bareC (v : Tr) : List V := v.cells ++ [.bool false, .nils, .nils]
theorem bareC_toD (σ : Sto) (n : Nat) (v : Tr) : mapO (toD σ (n + 1)) (bareC v) = some (partC (bare v)) := by
 cases v; simp [bareC, bare, partC, cells_mk, Raw.c, mapO, toD, nat, dg]
theorem bares_toD (σ : Sto) (m : Nat) : ∀ l : List Tr, mapO (mapO (toD σ (m + 1))) (l.map bareC) = some ((l.map bare).map partC)
 | [] => rfl
 | v :: l => by
   simp only [List.map_cons, mapO]
   rw [bares_toD σ m l, bareC_toD]
theorem bareC_inner (v : Tr) (y : V) (h : y ∈ bareC v) (f : Nat → Bool) : y.within f = true := by
 unfold bareC at h
 rcases List.mem_append.1 h with h | h
 ·exact cells_within _ y h
 ·simp at h; rcases h with rfl | rfl <;> simp [V.within]
theorem bareC_rch (σ : Sto) (n : Nat) (v : Tr) : (bareC v).flatMap (rch σ (n + 1)) = [] := by
 cases v; simp [bareC, cells_mk, rch]
theorem toD_two {σ : Sto} {f : Nat} {q w d e : V} (h1 : toD σ 10 q = some d) (h2 : toD σ 10 w = some e) : toD σ 12 (.clo f [.agg [q, w]]) = some (.clo f [.agg [d, e]]) := by
 have a : toD σ 11 (.agg [q, w]) = some (.agg [d, e]) := by
  show (mapO (toD σ 10) [q, w]).map V.agg = _
  simp only [mapO, h1, h2]; rfl
 show (mapO (toD σ 11) [V.agg [q, w]]).map (V.clo f) = _
 simp only [mapO, a]; rfl
theorem rch_two {σ : Sto} {f : Nat} {q w : V} {l : List Nat} (h1 : rch σ 10 q = l) (h2 : rch σ 10 w = []) : rch σ 12 (.clo f [.agg [q, w]]) = l := by
 show ([V.agg [q, w]]).flatMap (rch σ 11) = l
 have a : rch σ 11 (.agg [q, w]) = l := by
  show [q, w].flatMap (rch σ 10) = l
  simp [h1, h2]
 simp [a]
set_option maxHeartbeats 8000000 in
theorem privacyTurned_law {l0 l2 : List V} {l1 : List (List V)} (h0 : ∃ n, Typed Tryz.prog n T.parts2 l0) (h1 : ∃ n, Typed Tryz.prog n T.lists [.dat l1]) (h2 : ∃ n, Typed Tryz.prog n T.ratio l2) : CallD Tryz.prog F.law36_PrivacyTurned [.agg l0, .dat l1, .agg l2] (· = .bool true) := by
 obtain ⟨a, b, rfl, ⟨la, ha⟩, ⟨lb, hb⟩⟩ := read_parts2 h0
 obtain ⟨t, rfl, lt, ht⟩ := read_lists h1
 obtain ⟨x, rfl, hx⟩ := read_rat h2
 refine callD_by F.law36_PrivacyTurned_ok ?_
 unfold F.law36_PrivacyTurned_c
 simp [setOb, List.filter_cons]
 refine callK_of (law36_rated la lb ha hb hx) (by simp [toD_rawc, raw_v]) ?_
 cases r1 : ratedP a b x with
 | false => simp
 | true =>
 simp
 refine callK_of (law36_few lt ht) (by simp) ?_
 cases ft : fewL t with
 | false => simp
 | true =>
 have R1 := rated_of ha hb hx r1
 obtain ⟨nt, lx, ot, mt⟩ := fewL_ok ft ht
 have fab : fewP a = true ∧ fewP b = true := by
  have := r1
  simp only [ratedP, Bool.and_eq_true] at this
  obtain ⟨⟨⟨⟨⟨h1, h2⟩, h3⟩, h4⟩, h5⟩, h6⟩ := this
  exact ⟨h1, h2⟩
 have ga := R1.ga
 have gb := R1.gb
 have na := R1.na
 have nb := R1.nb
 simp
 refine callK_of (ref35_Values (by omega) (by omega) ga gb.ok) (by simp) ?_
 have lV : (valsT a b).length ≤ 20 := by
  unfold valsT
  rw [List.length_append, List.length_map, List.length_map]
  have := List.length_filter_le (fun p => decide (wtQ a p.v = 0)) b
  omega
 have okV : ∀ v ∈ valsT a b, v.Ok := fun v hv => by
  unfold valsT at hv
  rcases List.mem_append.1 hv with hv | hv
  ·obtain ⟨p, hp, rfl⟩ := List.mem_map.1 hv
   exact (ga.ok p hp).v
  ·obtain ⟨p, hp, rfl⟩ := List.mem_map.1 hv
   exact (gb.ok p (List.mem_filter.1 hp).1).v
 have neV : valsT a b ≠ [] := by
  unfold valsT
  intro h
  exact ga.ne (by simpa using (List.append_eq_nil_iff.1 h).1)
 generalize valsT a b = vs at *
 simp
 refine wm_loop (fun g : Nat × Nat => (((((((((Sl.empty.set 39 (.int .i64 g.2)).set 38 (.int .i64 vs.length)).set 37 (tl vs)).set 9 (grown g.1 g.2)).set 8 (pl b)).set 7 (pl a)).set 5 (.ptr 1 0 0)).set 1 (lls t)), (1, ⟨.own, 3, [x.c]⟩) :: grownS g.1 6 g.2 ((vs.map bareC).take g.2)))
  (fun g => g.2 ≤ vs.length ∧ 1 < g.1) (fun g => vs.length - g.2) (2, 0) (by simp) ?_ ?_
 ·refine weak_obs ?_ (by simp [grown_zero, grownS_zero]) (by repeat (first | exact sin_empty | refine sin_set (by simp [grown_zero]) ?_)) (by simp [grown_zero, grownS_zero]; exact fun y hy => rawc_within _ y hy)
  simp only [grown_zero]
  repeat (first | exact sub_empty | refine sub_set (by simp) ?_)
 rintro ⟨o, i⟩ ⟨hi, o1⟩
 dsimp only at hi o1
 have q1 : ¬ o = 1 := by omega
 have p1 : ¬ 1 = o := by omega
 by_cases h1 : i < vs.length
 ·have e1 : (vs.map bareC).take (i + 1) = (vs.map bareC).take i ++ [bareC vs[i]] := by
   rw [List.take_succ_eq_append_getElem (by simpa using h1)]; simp
  have eb : vs[i].cells ++ [V.bool false, .nils, .nils] = bareC vs[i] := rfl
  have fin : ∀ (o' : Nat) (S' : Sl) (τ : Sto), 1 < o' → (S' 39 = some (.int .i64 ((i : Int) + 1)) ∧ S' 38 = some (.int .i64 vs.length) ∧ S' 37 = some (tl vs) ∧ S' 9 = some (.ref o' 0 (i + 1)) ∧ S' 8 = some (pl b) ∧ S' 7 = some (pl a) ∧ S' 5 = some (.ptr 1 0 0) ∧ S' 1 = some (lls t)) → E.look τ 1 = some ⟨.own, 3, [x.c]⟩ → E.look τ o' = some ⟨.own, 6, (vs.map bareC).take (i + 1)⟩ →
   Again [] (fun g : Nat × Nat => (((((((((Sl.empty.set 39 (.int .i64 g.2)).set 38 (.int .i64 vs.length)).set 37 (tl vs)).set 9 (grown g.1 g.2)).set 8 (pl b)).set 7 (pl a)).set 5 (.ptr 1 0 0)).set 1 (lls t)), (1, ⟨.own, 3, [x.c]⟩) :: grownS g.1 6 g.2 ((vs.map bareC).take g.2))) (fun g => g.2 ≤ vs.length ∧ 1 < g.1) (fun g => vs.length - g.2) (o, i) S' τ := by
   rintro o' S' τ ho ⟨s1, s2, s3, s4, s5, s6, s7, s8⟩ hx1 hτ
   refine ⟨(o', i + 1), ⟨h1, ho⟩, by dsimp only; omega, ?_⟩
   dsimp only
   rw [grown_pos (by omega), grownS_pos (by omega)]
   refine weak_obs ?_ (by simp [hτ, hx1]) (by repeat (first | exact sin_empty | refine sin_set (by simp) ?_)) ?_
   ·exact sub_set s8 (sub_set s7 (sub_set s6 (sub_set s5 (sub_set s4 (sub_set s3 (sub_set s2 (sub_set s1 sub_empty)))))))
   ·intro p hp r hr y hy
    simp only [List.mem_cons, List.not_mem_nil, or_false] at hp
    rcases hp with rfl | rfl
    ·simp at hr; subst hr; exact rawc_within _ y hy
    ·obtain ⟨c, _, rfl⟩ := List.mem_map.1 (List.mem_of_mem_take hr)
     exact bareC_inner c y hy _
  by_cases hi0 : i = 0
  ·subst hi0
   simp [h1, grown_zero, grownS_zero, setOb, List.filter_cons]
   rw [wrap64 (by omega) (by omega)]
   refine fin 4 _ _ (by omega) (by simp) (by simp [E.look]) ?_
   rw [e1]; simp [E.look, eb]
  ·simp (disch := omega) [h1, q1, p1, grown_pos hi0, grownS_pos hi0, setOb, List.filter_cons, Nat.max_eq_right, Nat.max_eq_left, if_neg, if_pos]
   rw [wrap64 (by omega) (by omega)]
   refine fin (o + 3) _ _ (by omega) (by simp) (by simp (disch := omega) [E.look, if_neg]) ?_
   rw [e1]; simp [E.look, eb]
 ·have hil : i = vs.length := by omega
  subst hil
  have n0 : vs.length ≠ 0 := fun e => neV (List.length_eq_zero_iff.1 e)
  have etk : (vs.map bareC).take vs.length = vs.map bareC := List.take_of_length_le (by simp)
  rw [grown_pos n0, grownS_pos n0, etk]
  have hF : ∀ p ∈ vs.map bare, p.v.Ok := fun p hp => by
   obtain ⟨v, hv, rfl⟩ := List.mem_map.1 hp
   exact okV v hv
  have hTa := privacy_Turn (l := a) (f := vs.map bare) (t := t) na (by simp; omega) (by omega) lx R1.oa hF ot (many_few10 fab.1) mt
  have hTb := privacy_Turn (l := b) (f := vs.map bare) (t := t) nb (by simp; omega) (by omega) lx R1.ob hF ot (many_few10 fab.2) mt
  obtain ⟨X, e, hvX, lX, oX, eX, sX⟩ := turnV_form (f := vs.map bare) na lx R1.oa ot
  obtain ⟨Y, e', hvY, lY, oY, eY, sY⟩ := turnV_form (f := vs.map bare) nb lx R1.ob ot
  rw [hvX] at hTa
  rw [hvY] at hTb
  simp (disch := omega) [h1, q1, p1, setOb, List.filter_cons, Nat.max_eq_right, Nat.max_eq_left, if_neg, if_pos]
  have hdat : ∀ (σ : Sto) (s : St), s ≠ .dead → E.look σ o = some ⟨s, 6, vs.map bareC⟩ → toD σ 12 (V.clo (47 + bm) [.agg [.ref o 0 vs.length, lls t]]) = some (tblV (vs.map bare) t) := fun σ s hs h =>
   toD_two (E.toD_refM (k := 9) (st := s) (es := 6) h hs (by simp) (by simp) (bares_toD _ 8 vs)) rfl
  have hrch : ∀ (σ : Sto) (s : St), s ≠ .dead → E.look σ o = some ⟨s, 6, vs.map bareC⟩ → rch σ 12 (V.clo (47 + bm) [.agg [.ref o 0 vs.length, lls t]]) = [o] := fun σ s hs h =>
   rch_two (rch_flat (st := s) (es := 6) (l := vs.map bareC) (by simp [getOb, h, hs]) (by simp) (fun r hr => by obtain ⟨v, _, rfl⟩ := List.mem_map.1 hr; exact bareC_rch _ _ _)) rfl
  have d1 := hdat [(o + 1, ⟨.own, 2, [[.ref o 0 vs.length, lls t]]⟩), (1, ⟨.own, 3, [x.c]⟩), (o, ⟨.own, 6, vs.map bareC⟩)] .own (by simp) (by simp (disch := omega) [E.look, if_neg])
  have c1 := hrch [(o + 1, ⟨.own, 2, [[.ref o 0 vs.length, lls t]]⟩), (1, ⟨.own, 3, [x.c]⟩), (o, ⟨.own, 6, vs.map bareC⟩)] .own (by simp) (by simp (disch := omega) [E.look, if_neg])
  refine callK_of hTa (by simp [d1]) ?_
  simp [rchs, deep, c1, frz, p1]
  have d2 := hdat [(o + 1, ⟨.own, 2, [[.ref o 0 vs.length, lls t]]⟩), (1, ⟨.own, 3, [x.c]⟩), (o, ⟨.fro, 6, vs.map bareC⟩)] .fro (by simp) (by simp (disch := omega) [E.look, if_neg])
  have c2 := hrch [(o + 1, ⟨.own, 2, [[.ref o 0 vs.length, lls t]]⟩), (1, ⟨.own, 3, [x.c]⟩), (o, ⟨.fro, 6, vs.map bareC⟩)] .fro (by simp) (by simp (disch := omega) [E.look, if_neg])
  refine callK_of hTb (by simp [d2]) ?_
  simp [rchs, deep, c2, frz, p1]
  by_cases he : e = 0
  case neg =>
   simp [he]
   refine callK_of law36_alive (by simp) ?_
   simp
  by_cases he' : e' = 0
  case neg =>
   simp [he, he']
   refine callK_of law36_alive (by simp) ?_
   simp
  subst he
  subst he'
  obtain ⟨rfl, rX⟩ := eX rfl
  obtain ⟨rfl, rY⟩ := eY rfl
  have okT : ∀ v, ∀ q ∈ tbl (vs.map bare) t v, q.Ok 3 := fun v q hq => by
   rcases tbl_mem (v := v) (f := vs.map bare) (t := t) with h | h
   ·rw [h] at hq; simp at hq
   ·exact ot _ h q hq
  have rgX := turn_right (k := 3) (by omega) R1.ra rX R1.oa (fun p hp => okT p.v) (by omega) (by omega)
  have rgY := turn_right (k := 3) (by omega) R1.rb rY R1.ob (fun p hp => okT p.v) (by omega) (by omega)
  have gX : ∀ p ∈ a, Good (tbl (vs.map bare) t p.v) := fun p hp => good_of (rX p hp) fun q hq => ⟨(okT _ q hq).v, okMono (okT _ q hq).w (by omega)⟩
  have gY : ∀ p ∈ b, Good (tbl (vs.map bare) t p.v) := fun p hp => good_of (rY p hp) fun q hq => ⟨(okT _ q hq).v, okMono (okT _ q hq).w (by omega)⟩
  have x1 := R1.one
  have main := rest_turned ga gb gX gY (r := x.q) (by grind)
  have fx : Fits x.q 1000000 := (Raw.fits R1.x3 (by omega)).mono (by omega)
  have fr1 := rest_fits ga.ok gb.ok fx ga.le
  have fr2 := rest_fits oX oY fx (by omega)
  have okx6 : x.Ok 1000000 := okMono R1.x3 (by omega)
  have q0 : ¬ o = 0 := by omega
  simp [q0, q1, p1]
  refine callK_of (privacy_Rest (by omega) (by omega) ga.ok gb.ok okx6) (by simp [toD_rawc, raw_v]) ?_
  rw [restV_ok R1.ra R1.rb R1.rx]
  simp (disch := omega) [setOb, List.filter_cons, ratV, raw_v, q0, p1, q1, Nat.max_eq_right, Nat.max_eq_left, if_neg, if_pos]
  refine callK_of (privacy_Rest (by omega) (by omega) oX oY okx6) (by simp [toD_rawc, raw_v]) ?_
  rw [restV_ok rgX rgY R1.rx]
  simp (disch := omega) [setOb, List.filter_cons, ratV, raw_v, q0, p1, q1, Nat.max_eq_right, Nat.max_eq_left, if_neg, if_pos]
  refine callK_of (ref02_Compare (rawOf_ok (fr2.mono (by omega))) (rawOf_ok (fr1.mono (by omega)))) (by simp [toD_rawc, raw_v]) ?_
  rw [rawOf_q, rawOf_q]
  simp [cmpR_lez.2 main]
  refine callK_of law36_alive (by simp) ?_
  simp
end Go.Proofs.YtipbefckimdkkaaGreat
