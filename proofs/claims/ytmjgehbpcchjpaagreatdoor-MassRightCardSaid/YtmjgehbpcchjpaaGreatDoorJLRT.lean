/- MassRight, over data. -/
import Derived.Test.YtmjgehbpcchjpaaGreatDoorIN
import Derived.Test.YtmjgehbpcchjpaaGreatDoorIE
namespace Go.Proofs.YtmjgehbpcchjpaaGreatDoor.F
open Go Go.Proofs Go.Proofs.YtmjgehbpcchjpaaGreatDoor.E Go.Proofs.YtmjgehbpcchjpaaGreatDoor.Q
abbrev law04_MassRight : Nat := 6
def law04_MassRight_c : MFn := ⟨105,(.seq (r [o 3 (.box (.t 0)),o 4 (.box (.t 1)),o 5 (.box (.t 2)),o 6 (.mv (.c (.bool false)))] [3,4,5]) (.seq (.seq (r [o 14 (.ld (some 16) (.t 3)),o 15 (.ld (some 16) (.t 4)),o 16 (.buildSl 16 2 zM [(0,(.t 14)),(1,(.t 15))]),o 17 (.call 14 [(.t 16)]),o 18 (.un .not (.t 17)),o 19 (.mv (.t 18)),n 20 19 (.ld (some 3) (.t 5)),n 21 19 (.buildSl 3 1 zR [(0,(.t 20))]),n 22 19 (.call 15 [(.t 21)]),n 23 19 (.un .not (.t 22)),o 24 (.pick (.t 19) (.c (.bool true)) (.t 23)),o 25 (.mv (.t 24)),n 26 25 (.ld (some 16) (.t 3)),n 27 25 (.call 35 [(.t 26)]),n 28 25 (.un .not (.t 27)),o 29 (.pick (.t 25) (.c (.bool true)) (.t 28)),o 30 (.mv (.t 29)),n 31 30 (.ld (some 16) (.t 4)),n 32 30 (.call 35 [(.t 31)]),n 33 30 (.un .not (.t 32)),o 34 (.pick (.t 30) (.c (.bool true)) (.t 33)),o 35 (.mv (.t 34)),n 36 35 (.ld (some 3) (.t 5)),n 37 35 (.call 36 [(.t 36)]),n 38 35 (.bin .lss (.t 37) (i 0)),o 39 (.pick (.t 35) (.c (.bool true)) (.t 38))] [3,4,5,39]) (.cond (.t 39) (.seq (r [o 40 (.call 16 []),o 6 (.mv (.t 40))] [6]) .ret) .skip)) (.seq (r [o 41 (.ld (some 16) (.t 3)),o 42 (.ld (some 16) (.t 4)),o 43 (.ld (some 3) (.t 5)),o 44 (.callF 22 [(.t 42),(.t 43)]),o 45 (.callF 20 [(.t 41),(.t 44)]),o 7 (.alloc zM),z (.st 16 (.t 7) (.t 45))] [3,7]) (.seq (r [o 8 (.mv (i 0))] [3,7,8]) (.seq (r [o 46 (.ld (some 16) (.t 7)),o 47 (.call 33 [(.t 46)]),o 9 (.mv (.t 47))] [3,7,8,9]) (.seq (.seq (r [o 10 (.mv (i 0))] [3,7,8,9,10]) (.block 0 (.loop (.seq (.seq (r [o 48 (.mv (.t 10)),o 49 (.mv (.t 9)),o 50 (.lenT (.t 49)),o 51 (.bin .lss (.t 48) (.t 50))] [3,7,8,9,10,51]) (.cond (.t 51) .skip (.exit 0))) (.seq (.block 1 (.seq (r [o 54 (.mv (.t 9)),o 55 (.mv (.t 10)),o 56 (.ixS (.t 54) (.t 55)),o 57 (.bin .eql (.t 56) (.c (.int .u8 10)))] [3,7,8,9,10,57]) (.cond (.t 57) (r [o 58 (.mv (.t 8)),o 59 (.bin .add (.t 58) (i 1)),o 8 (.mv (.t 59))] [3,7,8,9,10]) .skip))) (r [o 52 (.mv (.t 10)),o 53 (.bin .add (.t 52) (i 1)),o 10 (.mv (.t 53))] [3,7,8,9,10])))))) (.seq (r [o 60 (.fA 0 (.t 7)),o 61 (.ld none (.t 60)),o 62 (.lenS (.t 61)),o 11 (.mv (.t 62))] [3,7,8,11]) (.seq (r [o 63 (.fA 1 (.t 7)),o 64 (.ld (some 3) (.t 63)),o 65 (.fA 4 (.t 7)),o 66 (.ld (some 3) (.t 65)),o 67 (.fA 7 (.t 7)),o 68 (.ixArr 3 3 (.t 67) (i 0)),o 69 (.ld (some 3) (.t 68)),o 70 (.fA 7 (.t 7)),o 71 (.ixArr 3 3 (.t 70) (i 1)),o 72 (.ld (some 3) (.t 71)),o 73 (.fA 7 (.t 7)),o 74 (.ixArr 3 3 (.t 73) (i 2)),o 75 (.ld (some 3) (.t 74)),o 76 (.buildSl 3 5 zR [(0,(.t 64)),(1,(.t 66)),(2,(.t 69)),(3,(.t 72)),(4,(.t 75))]),o 12 (.mv (.t 76))] [3,7,8,11,12]) (.seq (.seq (r [o 13 (.mv (i 0))] [3,7,8,11,12,13]) (.block 2 (.loop (.seq (.seq (r [o 77 (.mv (.t 13)),o 78 (.mv (.t 12)),o 79 (.lenS (.t 78)),o 80 (.bin .lss (.t 77) (.t 79))] [3,7,8,11,12,13,80]) (.cond (.t 80) .skip (.exit 2))) (.seq (.block 3 (.seq (r [o 83 (.mv (.t 12)),o 84 (.mv (.t 13)),o 85 (.ixA 3 (.t 83) (.t 84)),o 86 (.ld (some 3) (.t 85)),o 87 (.call 36 [(.t 86)]),o 88 (.bin .neq (.t 87) (i 0))] [3,7,8,11,12,13,88]) (.cond (.t 88) (r [o 89 (.mv (.t 11)),o 90 (.bin .add (.t 89) (i 1)),o 11 (.mv (.t 90))] [3,7,8,11,12,13]) .skip))) (r [o 81 (.mv (.t 13)),o 82 (.bin .add (.t 81) (i 1)),o 13 (.mv (.t 82))] [3,7,8,11,12,13])))))) (.seq (r [o 91 (.ld (some 16) (.t 7)),o 92 (.call 37 [(.t 91)]),o 93 (.mv (.t 92)),y 94 93 (.mv (.t 8)),y 95 93 (.mv (.t 11)),y 96 93 (.bin .eql (.t 94) (.t 95)),o 97 (.pick (.t 93) (.t 96) (.c (.bool false))),o 98 (.mv (.t 97)),y 99 98 (.ld (some 16) (.t 3)),y 100 98 (.call 37 [(.t 99)]),o 101 (.pick (.t 98) (.t 100) (.c (.bool false))),o 102 (.mv (.t 101)),y 103 102 (.call 16 []),o 104 (.pick (.t 102) (.t 103) (.c (.bool false))),o 6 (.mv (.t 104))] [6]) .ret)))))))))),[.t 6]⟩
theorem law04_MassRight_ok : cFn Tryz.prog (kps [[3,4,5],[3,4,5,39],[6],[3,7],[3,7,8],[3,7,8,9],[3,7,8,9,10],[3,7,8,9,10,51],[3,7,8,9,10],[3,7,8,9,10,57],[3,7,8,9,10],[3,7,8,11],[3,7,8,11,12],[3,7,8,11,12,13],[3,7,8,11,12,13,80],[3,7,8,11,12,13],[3,7,8,11,12,13,88],[3,7,8,11,12,13],[6]]) [] 6 = some law04_MassRight_c := by kernel_rfl
end Go.Proofs.YtmjgehbpcchjpaaGreatDoor.F

namespace Go.Proofs.YtmjgehbpcchjpaaGreatDoor
open Go Go.Proofs Go.Proofs.YtmjgehbpcchjpaaGreatDoor.E
set_option linter.unusedSimpArgs false
set_option linter.unusedVariables false
def nzR (l : List Raw) : Nat := (l.map fun r => fv r.q).sum
theorem nzR_take {l : List Raw} {i : Nat} (h : i < l.length) : nzR (l.take (i + 1)) = nzR (l.take i) + fv l[i].q := by
 unfold nzR
 rw [List.take_succ_eq_append_getElem h, List.map_append, List.sum_append]
 simp
theorem rX {l : List UInt8} {i : Nat} (h : i < l.length) : (l.take (i + 1)).count 10 = (l.take i).count 10 + (if l[i] = 10 then 1 else 0) := by
 rw [List.take_succ_eq_append_getElem h, List.count_append]
 by_cases e : l[i] = 10 <;> simp [e]
theorem bs_at {l : List UInt8} {i : Nat} (h : i < (bs l).size) : (bs l)[i] = l[i]'(by simpa using h) := by
 simp [bs, ByteArray.getElem_eq_getElem_data]
theorem sum_sml {a b : Ms} {w : Raw} (ha : Sml a 6 40) (hb : Sml b 6 40) (hw : w.Ok 6) {K : Nat} (h : Sml (bf (fo a (bf (fP b w.q)))) K 80) : Sml (bf (fo a (bf (fP b w.q)))) 600 80 := by
 have fr := Raw.fits hw (by omega)
 have fs : ∀ {x y : Raw}, x.Ok 6 → y.Ok 6 → (ap (ap (x.q + (ap (ap (y.q * w.q)).q).q)).q).Ok 600 := fun hx hy => by
  rw [bw, bw, bw]
  exact cu ((j9 (Raw.fits hx (by omega)) (mY (Raw.fits hy (by omega)) fr (by omega))).mono (by omega))
 refine ⟨⟨fun p hp => ⟨(h.ok.parts p hp).1, ?_⟩, fs ha.ok.rf hb.ok.rf, fs ha.ok.lo hb.ok.lo, fs ha.ok.f0 hb.ok.f0, fs ha.ok.f1 hb.ok.f1, fs ha.ok.f2 hb.ok.f2⟩, h.len, h.cnt⟩
 have fw : ∀ {x : Ms} (v : Tr), Sml x 6 40 → Fits (aP x.parts v) 281 := fun v hx => (jd (k := 6) (by omega) (fun y hy => Raw.fits (hx.ok.parts y hy).2 (by omega)) v).mono (by have := hx.len; omega)
 rw [(fX hp).1]
 have e : aP (fo a (bf (fP b w.q))).parts p.v = aP a.parts p.v + aP b.parts p.v * w.q := by
  show aP (a.parts ++ cN (gG b.parts w.q)) p.v = _
  rw [f9, nZ, uM]
 rw [e]
 exact cu ((j9 (fw p.v ha) (mY (fw p.v hb) fr (by omega))).mono (by omega))
theorem msL_len {m : Ms} {K : Nat} (h : Txt m K) : (msL m).length ≤ 402000000000 := by
 obtain ⟨ok, ln, prt⟩ := h.nrm
 have p := gW (l := cN m.parts) (B := 400000000) fun p hp => (prt p hp).2.2.2.1
 have q := Nat.mul_le_mul_right 400000000 ln
 have f : ∀ {w : List UInt8} {x : Raw}, w.length ≤ 7 → (ap x.q).Ok (2 ^ 24) → (cY w x.q).length ≤ 400000000 := fun {w x} hw hx => by
  have := qu hw (Raw.fits hx (by omega))
  rwa [bw] at this
 have a1 := f (w := wRef) (by decide) ok.rf
 have a2 := f (w := wLos) (by decide) ok.lo
 have a3 := f (w := wOve) (by decide) ok.f0
 have a4 := f (w := wZer) (by decide) ok.f1
 have a5 := f (w := wLon) (by decide) ok.f2
 unfold msL
 simp only [List.length_append]
 omega
set_option maxHeartbeats 16000000 in
theorem og {l0 l1 l2 : List V} (h0 : ∃ n, b6 Tryz.prog n T.mass l0) (h1 : ∃ n, b6 Tryz.prog n T.mass l1) (h2 : ∃ n, b6 Tryz.prog n T.ratio l2) : CallD Tryz.prog F.law04_MassRight [.agg l0, .agg l1, .agg l2] (· = .bool true) := by
 obtain ⟨_, h0⟩ := h0
 obtain ⟨a, rfl, ha, la⟩ := oZ h0
 obtain ⟨_, h1⟩ := h1
 obtain ⟨b, rfl, hb, lb⟩ := oZ h1
 obtain ⟨_, h2⟩ := h2
 obtain ⟨w, rfl, hw⟩ := fO h2
 refine av F.law04_MassRight_ok ?_
 unfold F.law04_MassRight_c
 have e16 : ∀ m : Ms, List.take 16 (msC m) = msC m := fun m => by simp [msC, ay]
 have l16 : ∀ m : Ms, (msC m).length = 16 := fun m => by simp [msC, ay]
 have d16 : ∀ m : Ms, List.drop 16 (msC m) = [] := fun m => by simp [msC, ay]
 have tD : ∀ (m : Ms) (σ : Sto) (n : Nat), bt (toD σ (n + 1)) (msC m) = some (msC m) := fun m σ n => by simp [msC, ay]
 have rm : ∀ (m : Ms) (σ : Sto) (n : Nat), (msC m).flatMap (rch σ n) = [] := fun m => rch_msC
 have t3 : ∀ x : Raw, List.take 3 x.c = x.c := fun x => by simp [Raw.c]
 simp [ac, List.filter_cons, e16, l16]
 have few := law04_Few (l := [a, b]) (by simp) (by simp; exact ⟨⟨ha, la⟩, hb, lb⟩)
 simp at few
 refine ag few (by
  simp
  rw [kD (k := 11) (es := 16) (st := .own) (l := [msC a, msC b]) (by simp [aV, E.look]) (by simp) (by simp) (by simp; exact ⟨tf _ _ _, tf _ _ _⟩)]) ?_
 cases c1 : (jj a && jj b) with
 | false =>
   simp [ac, List.filter_cons]
   refine ag law04_awake (by simp) ?_
   simp
 | true =>
 obtain ⟨c1, c2⟩ := (Bool.and_eq_true _ _).mp c1
 have sa := sT ha c1
 have sb := sT hb c2
 simp [ac, List.filter_cons, t3]
 refine ag (law04_short (l := [w]) (by simp)) (by
  simp
  rw [kD (k := 11) (es := 3) (st := .own) (l := [w.c]) (by simp [aV, E.look]) (by simp) (by simp) (by simp; exact bJ _ _ _)]) ?_
 cases c7 : eF 6 w with
 | false =>
   simp [c7, ac, List.filter_cons]
   refine ag law04_awake (by simp) ?_
   simp
 | true =>
 have ow := eG hw c7
 simp [c7, ac, List.filter_cons, e16, l16]
 refine ag (ref04_Right (sa.ok.mono (by omega)) (by have := sa.len; omega)) (by simp [tD, Ms.v]) ?_
 cases r1 : eE a with
 | false =>
   simp [ac, List.filter_cons]
   refine ag law04_awake (by simp) ?_
   simp
 | true =>
 simp [ac, List.filter_cons, e16, l16]
 refine ag (ref04_Right (sb.ok.mono (by omega)) (by have := sb.len; omega)) (by simp [tD, Ms.v]) ?_
 cases r2 : eE b with
 | false =>
   simp [ac, List.filter_cons]
   refine ag law04_awake (by simp) ?_
   simp
 | true =>
 simp [ac, List.filter_cons, e16, l16, t3]
 have oS : w.Ok (2 ^ 33) := rok ow (by omega)
 refine ag (ratio_Sign oS) (by simp [bJ, dZ]) ?_
 by_cases c8 : cH w.q < 0
 ·simp [c8, ac, List.filter_cons]
  refine ag law04_awake (by simp) ?_
  simp
 have w0 : 0 ≤ w.q := Rat.not_lt.1 fun h => c8 (by rw [d7 h]; omega)
 obtain ⟨sc, scs⟩ := sb.scl ow (by omega) (by omega) (by omega)
 have sa5 : Sml a 533 40 := sa.mono (by omega) (by omega)
 have sc5 : Sml (bf (fP b w.q)) 533 40 := scs.mono (by omega) (by omega)
 obtain ⟨ad, ads⟩ := sa5.add sc5 (by omega) (by omega) (by omega) (by omega)
 have ss := sum_sml sa sb ow ads
 have rt := (o4 sa.ok r1).add ((o4 sb.ok r2).scl w0).nrm
 have rr := rt.right ss.ok
 have cm := count_ms (bf (fo a (bf (fP b w.q))))
 have tx : Txt (bf (fo a (bf (fP b w.q)))) 600 := ⟨ss.ok, by omega, by omega, by have := ss.len; omega, ss.cnt⟩
 have pn : cN (bf (fo a (bf (fP b w.q)))).parts = (bf (fo a (bf (fP b w.q)))).parts := sk _
 rw [pn] at cm
 simp [c8, ac, List.filter_cons, e16, l16, t3]
 refine aq sc (by simp [tD, bJ]) ?_
 simp [rm, e16, l16, d16, t3, ac, List.filter_cons]
 refine aq ad (by simp [tD]) ?_
 generalize bf (fo a (bf (fP b w.q))) = s at *
 simp [rm, e16, l16, d16, t3, ac, List.filter_cons]
 refine ag (mass_Text tx) (by simp [tD, Ms.v]) ?_
 have tl := msL_len tx
 generalize msL s = T at *
 simp [rm, e16, l16, d16, t3, ac, List.filter_cons]
 refine aD (fun i : Nat => (((((Sl.empty.set 10 (.int .i64 i)).set 9 (.str (bs T))).set 8 (.int .i64 ((T.take i).count 10 : Nat))).set 7 (.ptr 5 0 0)).set 3 (.ptr 0 0 0), [(0, ⟨.own, 16, [msC a]⟩), (5, ⟨.own, 16, [msC s]⟩)])) (fun i => i ≤ T.length) (fun i => T.length - i) 0 (by omega) ?_ ?_
 ·refine aC ?_ (by simp [msC, ay]) (by repeat (first | exact aa | refine ah (by simp) ?_)) (by simp [msC, ay])
  repeat (first | exact ae | refine aj (by simp) ?_)
 ·rintro i hi
  by_cases h1 : i < T.length
  ·have ct := rX h1
   have cl := List.count_le_length (a := (10 : UInt8)) (l := T.take i)
   rw [List.length_take] at cl
   have en : T[i] = 10 ↔ (T[i].toNat : Int) = 10 := ⟨fun h => by rw [h]; rfl, fun h => UInt8.toNat_inj.1 (show T[i].toNat = 10 by omega)⟩
   simp [h1, bs_at, ac, List.filter_cons]
   refine ⟨fun e => ?_, fun e => ?_⟩
   ·rw [if_pos (en.2 e)] at ct
    rw [ak (by omega) (by omega)]
    rw [ak (by omega) (by omega)]
    refine ⟨i + 1, h1, by dsimp only; omega, ?_⟩
    refine aC ?_ (by simp [msC, ay]) (by repeat (first | exact aa | refine ah (by simp) ?_)) (by simp [msC, ay])
    repeat (first | exact ae | refine aj (by simp [ct]) ?_)
   ·rw [if_neg fun h => e (en.1 h)] at ct
    rw [ak (by omega) (by omega)]
    refine ⟨i + 1, h1, by dsimp only; omega, ?_⟩
    refine aC ?_ (by simp [msC, ay]) (by repeat (first | exact aa | refine ah (by simp) ?_)) (by simp [msC, ay])
    repeat (first | exact ae | refine aj (by simp [ct]) ?_)
  ·have e : i = T.length := by omega
   subst e
   simp [msC, ay, ac, List.filter_cons]
   have r5 : [s.rf, s.lo, s.f0, s.f1, s.f2].map Raw.c = [[V.bool s.rf.neg, nat s.rf.num, nat s.rf.den], [V.bool s.lo.neg, nat s.lo.num, nat s.lo.den], [V.bool s.f0.neg, nat s.f0.num, nat s.f0.den], [V.bool s.f1.neg, nat s.f1.num, nat s.f1.den], [V.bool s.f2.neg, nat s.f2.num, nat s.f2.den]] := rfl
   have n5 : nzR [s.rf, s.lo, s.f0, s.f1, s.f2] = fv s.rf.q + fv s.lo.q + fv s.f0.q + fv s.f1.q + fv s.f2.q := by simp [nzR]; omega
   have o5 : ∀ x ∈ [s.rf, s.lo, s.f0, s.f1, s.f2], x.Ok (2 ^ 33) := by
    simp only [List.mem_cons, List.not_mem_nil, or_false]
    rintro x (rfl | rfl | rfl | rfl | rfl)
    ·exact rok ss.ok.rf (by omega)
    ·exact rok ss.ok.lo (by omega)
    ·exact rok ss.ok.f0 (by omega)
    ·exact rok ss.ok.f1 (by omega)
    ·exact rok ss.ok.f2 (by omega)
   have l5 : [s.rf, s.lo, s.f0, s.f1, s.f2].length = 5 := rfl
   rw [← r5]
   generalize [s.rf, s.lo, s.f0, s.f1, s.f2] = L at r5 n5 o5 l5 ⊢
   refine aD (fun i : Nat => ((((((Sl.empty.set 13 (.int .i64 i)).set 12 (.ref 6 0 5)).set 11 (.int .i64 ((s.parts.length + nzR (L.take i) : Nat)))).set 8 (.int .i64 (T.count 10 : Nat))).set 7 (.ptr 5 0 0)).set 3 (.ptr 0 0 0), [(0, ⟨.own, 16, [msC a]⟩), (5, ⟨.own, 16, [msC s]⟩), (6, ⟨.own, 3, L.map Raw.c⟩)])) (fun i => i ≤ 5) (fun i => 5 - i) 0 (by omega) ?_ ?_
   ·refine aC ?_ (by simp [msC, ay, Raw.c]) (by repeat (first | exact aa | refine ah (by simp) ?_)) (by simp [msC, ay, Raw.c])
    repeat (first | exact ae | refine aj (by simp [nzR]) ?_)
   clear r5
   have nzl : ∀ i, nzR (L.take i) ≤ 5 := fun i => by
    have h : ∀ l : List Raw, nzR l ≤ l.length := fun l => by
     induction l with
     | nil => simp [nzR]
     | cons a l ih =>
       have : fv a.q ≤ 1 := by unfold fv; split <;> omega
       simp only [nzR, List.map_cons, List.sum_cons, List.length_cons] at ih ⊢
       omega
    have := h (L.take i)
    rw [List.length_take] at this
    omega
   rintro i hi
   have sl := ss.len
   by_cases h1 : i < 5
   ·have h2 : i < L.length := by omega
    have nt := nzR_take h2
    have nl := nzl i
    have t3 : ∀ x : Raw, List.take 3 x.c = x.c := fun x => by simp [Raw.c]
    have h3 : (i : Int) < 5 := by omega
    simp [h1, h2, h3, t3, ac, List.filter_cons]
    refine ag (ratio_Sign (o5 _ (List.getElem_mem h2))) (by simp [bJ, dZ]) ?_
    by_cases e : L[i].q = 0
    ·have e2 : cH L[i].q = 0 := gl.2 e
     rw [fv, if_pos e] at nt
     simp [e2]
     rw [ak (by omega) (by omega)]
     refine ⟨i + 1, h1, by dsimp only; omega, ?_⟩
     refine aC ?_ (by simp [msC, ay, Raw.c]) (by repeat (first | exact aa | refine ah (by simp) ?_)) (by simp [msC, ay, Raw.c])
     repeat (first | exact ae | refine aj (by simp [nt]) ?_)
    ·have e2 : ¬ cH L[i].q = 0 := fun h => e (gl.1 h)
     rw [fv, if_neg e] at nt
     simp [e2]
     rw [ak (by omega) (by omega)]
     rw [ak (by omega) (by omega)]
     refine ⟨i + 1, h1, by dsimp only; omega, ?_⟩
     refine aC ?_ (by simp [msC, ay, Raw.c]) (by repeat (first | exact aa | refine ah (by simp) ?_)) (by simp [msC, ay, Raw.c])
     repeat (first | exact ae | refine aj (by simp [nt]; try omega) ?_)
   ·have e : i = 5 := by omega
    subst e
    have lt : L.take 5 = L := List.take_of_length_le (by omega)
    have ce : (T.count 10 : Int) = ((s.parts.length : Nat) : Int) + ((nzR L : Nat) : Int) := by omega
    simp [lt, e16, l16, ac, List.filter_cons]
    refine ag (mass_Right (ss.ok.mono (by omega)) (by omega)) (by simp [tD, Ms.v]) ?_
    simp [rr, ce, e16, l16, ac, List.filter_cons]
    refine ag (mass_Right (sa.ok.mono (by omega)) (by have := sa.len; omega)) (by simp [tD, Ms.v]) ?_
    simp [r1, ac, List.filter_cons]
    refine ag law04_awake (by simp) ?_
    simp
end Go.Proofs.YtmjgehbpcchjpaaGreatDoor
