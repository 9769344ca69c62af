import Derived.Test.YtmjgehbpcchjpaaGreatDoorHM
import Derived.Test.YtmjgehbpcchjpaaGreatDoorGC
import Derived.Test.YtmjgehbpcchjpaaGreatDoorProg
import Derived.KernelRfl
namespace Go.Proofs.YtmjgehbpcchjpaaGreatDoor.F
open Go Go.Proofs Go.Proofs.YtmjgehbpcchjpaaGreatDoor.E Go.Proofs.YtmjgehbpcchjpaaGreatDoor.Q
abbrev weights_fine : Nat := 154
def weights_fine_c : MFn := ⟨10,(.seq (r [o 1 (.box (.t 0)),o 2 (.mv (.c (.bool false)))] [1]) (.seq (r [o 3 (.ld (some 3) (.t 1)),o 4 (.call 188 [(.t 3)]),o 5 (.mv (.t 4)),y 6 5 (.fA 0 (.t 1)),y 7 5 (.ld none (.t 6)),y 8 5 (.un .not (.t 7)),o 9 (.pick (.t 5) (.t 8) (.c (.bool false))),o 2 (.mv (.t 9))] [2]) .ret)),[.t 2]⟩
theorem weights_fine_ok : cFn Tryz.prog (kps [[1],[2]]) [] 154 = some weights_fine_c := by kernel_rfl
abbrev ref04_fit : Nat := 102
def ref04_fit_c : MFn := ⟨10,(.seq (r [o 1 (.box (.t 0)),o 2 (.mv (.c (.bool false)))] [1]) (.seq (r [o 3 (.ld (some 3) (.t 1)),o 4 (.call 100 [(.t 3)]),o 5 (.mv (.t 4)),y 6 5 (.ld (some 3) (.t 1)),y 7 5 (.call 88 [(.t 6)]),y 8 5 (.bin .geq (.t 7) (i 0)),o 9 (.pick (.t 5) (.t 8) (.c (.bool false))),o 2 (.mv (.t 9))] [2]) .ret)),[.t 2]⟩
theorem ref04_fit_ok : cFn Tryz.prog (kps [[1],[2]]) [] 102 = some ref04_fit_c := by kernel_rfl
abbrev weights_Right : Nat := 104
def weights_Right_c : MFn := ⟨66,(.seq (r [o 1 (.box (.t 0)),o 2 (.mv (.c (.bool false)))] [1]) (.seq (.seq (r [o 7 (.fA 0 (.t 1)),o 8 (.ld none (.t 7)),o 9 (.lenS (.t 8)),o 10 (.mv (i 0))] [1,8,9,10]) (.block 0 (.loop (.seq (r [o 11 (.bin .lss (.t 10) (.t 9))] [1,8,9,10,11]) (.seq (.cond (.t 11) .skip (.exit 0)) (.seq (.block 1 (.seq (r [o 12 (.mv (.t 10)),o 13 (.ixA 6 (.t 8) (.t 10)),o 14 (.ld (some 6) (.t 13)),o 4 (.alloc zP),o 3 (.mv (.t 12)),z (.st 6 (.t 4) (.t 14))] [1,3,4,8,9,10]) (.seq (r [o 15 (.fA 0 (.t 4)),o 16 (.ld (some 3) (.t 15)),o 17 (.callF 153 [(.t 16)]),o 18 (.un .not (.t 17)),o 19 (.mv (.t 18)),n 20 19 (.fA 3 (.t 4)),n 21 19 (.ld (some 3) (.t 20)),n 22 19 (.callF 154 [(.t 21)]),n 23 19 (.un .not (.t 22)),o 24 (.pick (.t 19) (.c (.bool true)) (.t 23)),o 25 (.mv (.t 24)),n 26 25 (.fA 3 (.t 4)),n 27 25 (.ld (some 3) (.t 26)),n 28 25 (.callF 36 [(.t 27)]),n 29 25 (.bin .eql (.t 28) (i 0)),o 30 (.pick (.t 25) (.c (.bool true)) (.t 29)),o 31 (.mv (.t 30)),n 32 31 (.mv (.t 3)),n 33 31 (.bin .gtr (.t 32) (i 0)),n 34 31 (.mv (.t 33)),y 35 34 (.fA 0 (.t 1)),y 36 34 (.ld none (.t 35)),y 37 34 (.mv (.t 3)),y 38 34 (.bin .sub (.t 37) (i 1)),y 39 34 (.ixA 6 (.t 36) (.t 38)),y 40 34 (.fA 0 (.t 39)),y 41 34 (.ld (some 3) (.t 40)),y 42 34 (.fA 0 (.t 4)),y 43 34 (.ld (some 3) (.t 42)),y 44 34 (.callF 155 [(.t 41),(.t 43)]),y 45 34 (.bin .geq (.t 44) (i 0)),n 46 31 (.pick (.t 34) (.t 45) (.c (.bool false))),o 47 (.pick (.t 31) (.c (.bool true)) (.t 46))] [1,8,9,10,47]) (.cond (.t 47) (.seq (r [o 2 (.mv (.c (.bool false)))] [2]) .ret) .skip)))) (r [o 48 (.bin .add (.t 10) (i 1)),o 10 (.mv (.t 48))] [1,8,9,10]))))))) (.seq (.seq (r [o 49 (.fA 7 (.t 1)),o 50 (.ld (some 9) (.t 49)),o 51 (.mv (i 0))] [1,50,51]) (.block 2 (.loop (.seq (r [o 52 (.bin .lss (.t 51) (i 3))] [1,50,51,52]) (.seq (.cond (.t 52) .skip (.exit 2)) (.seq (.block 3 (.seq (r [o 53 (.ix 3 3 (some 3) (.t 50) (.t 51)),o 6 (.alloc zR),z (.st 3 (.t 6) (.t 53))] [1,6,50,51]) (.seq (r [o 54 (.ld (some 3) (.t 6)),o 55 (.call 154 [(.t 54)]),o 56 (.un .not (.t 55))] [1,50,51,56]) (.cond (.t 56) (.seq (r [o 2 (.mv (.c (.bool false)))] [2]) .ret) .skip)))) (r [o 57 (.bin .add (.t 51) (i 1)),o 51 (.mv (.t 57))] [1,50,51]))))))) (.seq (r [o 58 (.fA 1 (.t 1)),o 59 (.ld (some 3) (.t 58)),o 60 (.call 154 [(.t 59)]),o 61 (.mv (.t 60)),y 62 61 (.fA 4 (.t 1)),y 63 61 (.ld (some 3) (.t 62)),y 64 61 (.call 154 [(.t 63)]),o 65 (.pick (.t 61) (.t 64) (.c (.bool false))),o 2 (.mv (.t 65))] [2]) .ret)))),[.t 2]⟩
theorem weights_Right_ok : cFn Tryz.prog (kps [[1],[1,8,9,10],[1,8,9,10,11],[1,3,4,8,9,10],[1,8,9,10,47],[2],[1,8,9,10],[1,50,51],[1,50,51,52],[1,6,50,51],[1,50,51,56],[2],[1,50,51],[2]]) [] 104 = some weights_Right_c := by kernel_rfl
abbrev mass_Right : Nat := 37
def mass_Right_c : MFn := ⟨5,(.seq (r [o 1 (.box (.t 0)),o 2 (.mv (.c (.bool false)))] [1]) (.seq (r [o 3 (.ld (some 16) (.t 1)),o 4 (.call 104 [(.t 3)]),o 2 (.mv (.t 4))] [2]) .ret)),[.t 2]⟩
theorem mass_Right_ok : cFn Tryz.prog (kps [[1],[2]]) [] 37 = some mass_Right_c := by kernel_rfl
abbrev ref04_Right : Nat := 35
def ref04_Right_c : MFn := ⟨76,(.seq (r [o 1 (.box (.t 0)),o 2 (.mv (.c (.bool false)))] [1]) (.seq (.seq (r [o 3 (.mv (i 0))] [1,3]) (.block 0 (.loop (.seq (.seq (r [o 5 (.mv (.t 3)),o 6 (.fA 0 (.t 1)),o 7 (.ld none (.t 6)),o 8 (.lenS (.t 7)),o 9 (.bin .lss (.t 5) (.t 8))] [1,3,9]) (.cond (.t 9) .skip (.exit 0))) (.seq (.block 1 (.seq (r [o 12 (.fA 0 (.t 1)),o 13 (.ld none (.t 12)),o 14 (.mv (.t 3)),o 15 (.ixA 6 (.t 13) (.t 14)),o 16 (.ld (some 6) (.t 15)),o 4 (.alloc zP),z (.st 6 (.t 4) (.t 16))] [1,3,4]) (.seq (r [o 17 (.fA 0 (.t 4)),o 18 (.ld (some 3) (.t 17)),o 19 (.callF 99 [(.t 18)]),o 20 (.un .not (.t 19)),o 21 (.mv (.t 20)),n 22 21 (.fA 3 (.t 4)),n 23 21 (.ld (some 3) (.t 22)),n 24 21 (.callF 100 [(.t 23)]),n 25 21 (.un .not (.t 24)),o 26 (.pick (.t 21) (.c (.bool true)) (.t 25)),o 27 (.mv (.t 26)),n 28 27 (.fA 3 (.t 4)),n 29 27 (.ld (some 3) (.t 28)),n 30 27 (.callF 88 [(.t 29)]),n 31 27 (.bin .leq (.t 30) (i 0)),o 32 (.pick (.t 27) (.c (.bool true)) (.t 31)),o 33 (.mv (.t 32)),n 34 33 (.mv (.t 3)),n 35 33 (.bin .gtr (.t 34) (i 0)),n 36 33 (.mv (.t 35)),y 37 36 (.fA 0 (.t 1)),y 38 36 (.ld none (.t 37)),y 39 36 (.mv (.t 3)),y 40 36 (.bin .sub (.t 39) (i 1)),y 41 36 (.ixA 6 (.t 38) (.t 40)),y 42 36 (.fA 0 (.t 41)),y 43 36 (.ld (some 3) (.t 42)),y 44 36 (.fA 0 (.t 4)),y 45 36 (.ld (some 3) (.t 44)),y 46 36 (.callF 101 [(.t 43),(.t 45)]),y 47 36 (.bin .geq (.t 46) (i 0)),n 48 33 (.pick (.t 36) (.t 47) (.c (.bool false))),o 49 (.pick (.t 33) (.c (.bool true)) (.t 48))] [1,3,49]) (.cond (.t 49) (.seq (r [o 2 (.mv (.c (.bool false)))] [2]) .ret) .skip)))) (r [o 10 (.mv (.t 3)),o 11 (.bin .add (.t 10) (i 1)),o 3 (.mv (.t 11))] [1,3])))))) (.seq (r [o 50 (.fA 1 (.t 1)),o 51 (.ld (some 3) (.t 50)),o 52 (.call 102 [(.t 51)]),o 53 (.mv (.t 52)),y 54 53 (.fA 4 (.t 1)),y 55 53 (.ld (some 3) (.t 54)),y 56 53 (.call 102 [(.t 55)]),o 57 (.pick (.t 53) (.t 56) (.c (.bool false))),o 58 (.mv (.t 57)),y 59 58 (.fA 7 (.t 1)),y 60 58 (.ixArr 3 3 (.t 59) (i 0)),y 61 58 (.ld (some 3) (.t 60)),y 62 58 (.call 102 [(.t 61)]),o 63 (.pick (.t 58) (.t 62) (.c (.bool false))),o 64 (.mv (.t 63)),y 65 64 (.fA 7 (.t 1)),y 66 64 (.ixArr 3 3 (.t 65) (i 1)),y 67 64 (.ld (some 3) (.t 66)),y 68 64 (.call 102 [(.t 67)]),o 69 (.pick (.t 64) (.t 68) (.c (.bool false))),o 70 (.mv (.t 69)),y 71 70 (.fA 7 (.t 1)),y 72 70 (.ixArr 3 3 (.t 71) (i 2)),y 73 70 (.ld (some 3) (.t 72)),y 74 70 (.call 102 [(.t 73)]),o 75 (.pick (.t 70) (.t 74) (.c (.bool false))),o 2 (.mv (.t 75))] [2]) .ret))),[.t 2]⟩
theorem ref04_Right_ok : cFn Tryz.prog (kps [[1],[1,3],[1,3,9],[1,3],[1,3,4],[1,3,49],[2],[2]]) [] 35 = some ref04_Right_c := by kernel_rfl
end Go.Proofs.YtmjgehbpcchjpaaGreatDoor.F

namespace Go.Proofs.YtmjgehbpcchjpaaGreatDoor
open Go Go.Proofs Go.Proofs.YtmjgehbpcchjpaaGreatDoor.E
set_option linter.unusedSimpArgs false
set_option linter.unusedVariables false
def cQ (x : Raw) : Bool := x.right && !x.neg
theorem j7 {x : Raw} {k : Nat} (hx : x.Ok k) (h : x.right = true) : decide (0 ≤ cH x.q) = !x.neg := by
 have e := (Raw.right_iff hx).1 h
 have e1 : x.neg = decide (x.q < 0) := by
  have : x.neg = (ap x.q).neg := congrArg Raw.neg e
  rw [this]; rfl
 rw [e1]
 unfold cH gf
 by_cases h1 : x.q < 0
 ·simp [h1]
 ·by_cases h2 : 0 < x.q <;> simp [h1, h2]
theorem fine_pos {x : Raw} {k : Nat} (hx : x.Ok k) (h : x.right = true) : (0 < x.q) ↔ (x.neg = false ∧ cH x.q ≠ 0) := by
 have := j7 hx h
 have e2 : cH x.q ≤ 0 ↔ ¬ 0 < x.q := gY
 constructor
 ·intro hp
  have h1 : ¬ cH x.q ≤ 0 := fun h => e2.1 h hp
  have h2 : decide (0 ≤ cH x.q) = true := by simp; omega
  rw [h2] at this
  exact ⟨by simpa using this.symm, by omega⟩
 ·rintro ⟨hn, h0⟩
  rw [hn] at this
  simp at this
  have h1 : ¬ cH x.q ≤ 0 := by omega
  rw [e2] at h1
  exact Decidable.not_not.1 h1
theorem weights_fine {x : Raw} (hx : x.Ok (2 ^ 33)) : CallD Tryz.prog F.weights_fine [x.v] (· = .bool (cQ x)) := by
 refine av F.weights_fine_ok ?_
 unfold F.weights_fine_c cQ
 simp [ac, List.filter_cons, Raw.v]
 refine ag (ratio_Right hx) (by simp [Raw.v]) ?_
 cases h : x.right <;> simp [ac, List.filter_cons]
theorem ref04_fit {x : Raw} (hx : x.Ok (2 ^ 33)) : CallD Tryz.prog F.ref04_fit [x.v] (· = .bool (cQ x)) := by
 refine av F.ref04_fit_ok ?_
 unfold F.ref04_fit_c cQ
 simp [ac, List.filter_cons, Raw.v]
 refine ag (ref02_Right hx) (by simp [Raw.v]) ?_
 cases h : x.right with
 | false => simp [ac, List.filter_cons]
 | true =>
   have := j7 hx h
   simp [ac, List.filter_cons]
   refine ag (ref02_Sign hx) (by simp [Raw.v]) ?_
   rw [← this]
   simp [ac, List.filter_cons]
def kV (l : List Part) : Bool := (List.range l.length).all (dS l)
def eE (m : Ms) : Bool := kV m.parts && (cQ m.f0 && cQ m.f1 && cQ m.f2) && (cQ m.rf && cQ m.lo)
set_option maxHeartbeats 8000000 in
theorem weights_Right {m : Ms} (hm : m.Ok (2 ^ 33)) (hl : m.parts.length ≤ 1000000) : CallD Tryz.prog F.weights_Right [m.v] (· = .bool (eE m)) := by
 refine av F.weights_Right_ok ?_
 unfold F.weights_Right_c eE kV
 simp [ac, List.filter_cons, msC, ay]
 have ho := hm.parts
 generalize hL : m.parts = l at hl ho ⊢
 refine aD (fun g : Nat => ((((Sl.empty.set 10 (.int .i64 g)).set 9 (.int .i64 l.length)).set 8 (pl l)).set 1 (.ptr 0 0 0), [(0, ⟨.own, 16, [pl l :: ay m.rf m.lo m.f0 m.f1 m.f2]⟩)]))
  (fun g => g ≤ l.length ∧ (∀ j, j < g → dS l j = true)) (fun g => l.length - g) 0 ⟨by omega, fun j h => by omega⟩ ?_ ?_
 ·refine aC ?_ (by simp [ay]) (by repeat (first | exact aa | refine ah (by simp) ?_)) (by simp [ay])
  repeat (first | exact ae | refine aj (by simp) ?_)
 rintro i ⟨hi, hb⟩
 by_cases h1 : i < l.length
 ·have okp := ho l[i] (List.getElem_mem h1)
  have hpa := gE h1
  have bad : dS l i = false → (List.range l.length).all (dS l) = false := fun h => by
   rw [List.all_eq_false]; exact ⟨i, by simpa using h1, by simp [h]⟩
  simp [h1, ac, List.filter_cons]
  refine aq (value_Right okp.1) (by simp [a8]) ?_
  have next : dS l i = true → i + 1 ≤ l.length ∧ (∀ j, j < i + 1 → dS l j = true) := by
   intro h
   refine ⟨h1, fun j hj => ?_⟩
   by_cases e : j = i
   ·rw [e]; exact h
   ·exact hb j (by omega)
  cases hv : gk l[i].v with
  | false =>
    have := bad (by rw [hpa, hv]; rfl)
    simp [this]
  | true =>
  simp
  refine aq (weights_fine okp.2) (by simp [bJ, dZ]) ?_
  unfold cQ
  cases hr : l[i].w.right with
  | false =>
    have := bad (by rw [hpa, hv, hr]; rfl)
    simp [this]
  | true =>
  have fp := fine_pos okp.2 hr
  cases hn : l[i].w.neg with
  | true =>
    have hq : ¬ 0 < l[i].w.q := fun h => by rw [fp.1 h |>.1] at hn; simp at hn
    have := bad (by rw [hpa]; simp [hq])
    simp [this]
  | false =>
  simp
  refine aq (ratio_Sign okp.2) (by simp [bJ, dZ]) ?_
  by_cases hz : cH l[i].w.q = 0
  ·have hq : ¬ 0 < l[i].w.q := fun h => (fp.1 h).2 hz
   have := bad (by rw [hpa]; simp [hq])
   simp [this, hz]
  have hq : 0 < l[i].w.q := fp.2 ⟨hn, hz⟩
  by_cases h0 : i = 0
  ·subst h0
   simp [hz]
   rw [ak (by omega) (by omega)]
   refine ⟨1, next (by rw [hpa]; simp [hv, hr, hq]), by dsimp only; omega, ?_⟩
   refine aC ?_ (by simp [ay]) (by repeat (first | exact aa | refine ah (by simp) ?_)) (by simp [ay])
   repeat (first | exact ae | refine aj (by simp) ?_)
  ·have h0' : (0 : Int) < i := by omega
   have h0'' : 0 < i := by omega
   have hi1 : i - 1 < l.length := by omega
   have okq := ho (l[i - 1]'hi1) (List.getElem_mem hi1)
   have e1 : ((i : Int) - 1).toNat = i - 1 := by omega
   simp [hz, h0, h0', h0'']
   repeat simp (disch := omega) [ak, if_pos, e1]
   refine aq (value_Compare okq.1 okp.1) (by simp [a8]) ?_
   by_cases hc : bx (l[i - 1]'hi1).v l[i].v < 0
   ·have hc' : ¬ 0 ≤ bx (l[i - 1]'hi1).v l[i].v := by omega
    simp [hc, hc']
    rw [ak (by omega) (by omega)]
    refine ⟨i + 1, next (by rw [hpa]; simp [hv, hr, hq, h0'', hc]), by dsimp only; omega, ?_⟩
    refine aC ?_ (by simp [ay]) (by repeat (first | exact aa | refine ah (by simp) ?_)) (by simp [ay])
    repeat (first | exact ae | refine aj (by simp) ?_)
   ·have hc' : 0 ≤ bx (l[i - 1]'hi1).v l[i].v := by omega
    have := bad (by rw [hpa]; simp [h0, h0'', hc])
    simp [this, hc']
 ·have hil : i = l.length := by omega
  subst hil
  have hall : (List.range l.length).all (dS l) = true := by
   rw [List.all_eq_true]; intro j hj; exact hb j (by simpa using hj)
  simp [h1, ay, hall]
  refine aD (fun g : Nat => (((Sl.empty.set 51 (.int .i64 g)).set 50 (.agg [V.bool m.f0.neg, nat m.f0.num, nat m.f0.den, V.bool m.f1.neg, nat m.f1.num, nat m.f1.den, V.bool m.f2.neg, nat m.f2.num, nat m.f2.den])).set 1 (.ptr 0 0 0), [(0, ⟨.own, 16, [pl l :: ay m.rf m.lo m.f0 m.f1 m.f2]⟩)]))
   (fun g => g ≤ 3 ∧ (0 < g → cQ m.f0 = true) ∧ (1 < g → cQ m.f1 = true) ∧ (2 < g → cQ m.f2 = true)) (fun g => 3 - g) 0 ⟨by omega, fun h => by omega, fun h => by omega, fun h => by omega⟩ ?_ ?_
  ·refine aC ?_ (by simp [ay]) (by repeat (first | exact aa | refine ah (by simp) ?_)) (by simp [ay])
   repeat (first | exact ae | refine aj (by simp) ?_)
  rintro g ⟨hg, g0, g1, g2⟩
  by_cases c : g < 3
  ·have hg3 : g = 0 ∨ g = 1 ∨ g = 2 := by omega
   simp only [ay]
   rcases hg3 with e | e | e
   ·subst e
    simp [ac, List.filter_cons]
    refine ag (weights_fine hm.f0) (by simp [Raw.v]) ?_
    cases hf : cQ m.f0 with
    | false => simp
    | true =>
    simp
    rw [ak (by omega) (by omega)]
    refine ⟨1, ⟨by omega, fun h => by omega, fun h => by omega⟩, by dsimp only; omega, ?_⟩
    refine aC ?_ (by simp) (by repeat (first | exact aa | refine ah (by simp) ?_)) (by simp)
    repeat (first | exact ae | refine aj (by simp) ?_)
   ·subst e
    simp [ac, List.filter_cons]
    refine ag (weights_fine hm.f1) (by simp [Raw.v]) ?_
    cases hf : cQ m.f1 with
    | false => simp
    | true =>
    simp
    rw [ak (by omega) (by omega)]
    refine ⟨2, ⟨by omega, fun _ => g0 (by omega), fun h => by omega⟩, by dsimp only; omega, ?_⟩
    refine aC ?_ (by simp) (by repeat (first | exact aa | refine ah (by simp) ?_)) (by simp)
    repeat (first | exact ae | refine aj (by simp) ?_)
   ·subst e
    simp [ac, List.filter_cons]
    refine ag (weights_fine hm.f2) (by simp [Raw.v]) ?_
    cases hf : cQ m.f2 with
    | false => simp
    | true =>
    simp
    rw [ak (by omega) (by omega)]
    refine ⟨3, ⟨by omega, fun _ => g0 (by omega), fun h => g1 (by omega)⟩, by dsimp only; omega, ?_⟩
    refine aC ?_ (by simp) (by repeat (first | exact aa | refine ah (by simp) ?_)) (by simp)
    repeat (first | exact ae | refine aj (by simp) ?_)
  have hg3 : g = 3 := by omega
  subst hg3
  have a0 := g0 (by omega)
  have a1 := g1 (by omega)
  have a2 := g2 (by omega)
  simp [ay, a0, a1, a2]
  refine ag (weights_fine hm.rf) (by simp [Raw.v]) ?_
  cases hf : cQ m.rf with
  | false => simp
  | true =>
  simp
  refine ag (weights_fine hm.lo) (by simp [Raw.v]) ?_
  simp
theorem mass_Right {m : Ms} (hm : m.Ok (2 ^ 33)) (hl : m.parts.length ≤ 1000000) : CallD Tryz.prog F.mass_Right [m.v] (· = .bool (eE m)) := by
 refine av F.mass_Right_ok ?_
 unfold F.mass_Right_c
 simp [ac, List.filter_cons, msC, ay]
 refine ag (weights_Right hm hl) (by simp [msC, ay]) ?_
 simp [ac, List.filter_cons]
set_option maxHeartbeats 8000000 in
theorem ref04_Right {m : Ms} (hm : m.Ok (2 ^ 33)) (hl : m.parts.length ≤ 1000000) : CallD Tryz.prog F.ref04_Right [m.v] (· = .bool (eE m)) := by
 refine av F.ref04_Right_ok ?_
 unfold F.ref04_Right_c eE kV
 simp [ac, List.filter_cons, msC, ay]
 have ho := hm.parts
 generalize hL : m.parts = l at hl ho ⊢
 refine aD (fun g : Nat => ((Sl.empty.set 3 (.int .i64 g)).set 1 (.ptr 0 0 0), [(0, ⟨.own, 16, [pl l :: ay m.rf m.lo m.f0 m.f1 m.f2]⟩)]))
  (fun g => g ≤ l.length ∧ (∀ j, j < g → dS l j = true)) (fun g => l.length - g) 0 ⟨by omega, fun j h => by omega⟩ ?_ ?_
 ·refine aC ?_ (by simp [ay]) (by repeat (first | exact aa | refine ah (by simp) ?_)) (by simp [ay])
  repeat (first | exact ae | refine aj (by simp) ?_)
 rintro i ⟨hi, hb⟩
 by_cases h1 : i < l.length
 ·have okp := ho l[i] (List.getElem_mem h1)
  have hpa := gE h1
  have bad : dS l i = false → (List.range l.length).all (dS l) = false := fun h => by
   rw [List.all_eq_false]; exact ⟨i, by simpa using h1, by simp [h]⟩
  simp [h1, ay, ac, List.filter_cons]
  refine aq (ref03_Right okp.1) (by simp [a8]) ?_
  have next : dS l i = true → i + 1 ≤ l.length ∧ (∀ j, j < i + 1 → dS l j = true) := by
   intro h
   refine ⟨h1, fun j hj => ?_⟩
   by_cases e : j = i
   ·rw [e]; exact h
   ·exact hb j (by omega)
  cases hv : gk l[i].v with
  | false =>
    have := bad (by rw [hpa, hv]; rfl)
    simp [this]
  | true =>
  simp
  refine aq (ref02_Right okp.2) (by simp [bJ, dZ]) ?_
  cases hr : l[i].w.right with
  | false =>
    have := bad (by rw [hpa, hv, hr]; rfl)
    simp [this]
  | true =>
  simp
  refine aq (ref02_Sign okp.2) (by simp [bJ, dZ]) ?_
  by_cases hq : ¬ 0 < l[i].w.q
  ·have := bad (by rw [hpa]; simp [hq])
   have h2 := gY.2 hq
   simp [this, h2]
  have hq : 0 < l[i].w.q := by simpa using hq
  have h2 : ¬ cH l[i].w.q ≤ 0 := fun h => gY.1 h hq
  by_cases h0 : i = 0
  ·subst h0
   simp [h2]
   rw [ak (by omega) (by omega)]
   refine ⟨1, next (by rw [hpa]; simp [hv, hr, hq]), by dsimp only; omega, ?_⟩
   refine aC ?_ (by simp [ay]) (by repeat (first | exact aa | refine ah (by simp) ?_)) (by simp [ay])
   repeat (first | exact ae | refine aj (by simp) ?_)
  ·have h0' : (0 : Int) < i := by omega
   have h0'' : 0 < i := by omega
   have hi1 : i - 1 < l.length := by omega
   have okq := ho (l[i - 1]'hi1) (List.getElem_mem hi1)
   have e1 : ((i : Int) - 1).toNat = i - 1 := by omega
   simp [h2, h0, h0', h0'']
   repeat simp (disch := omega) [ak, if_pos, e1]
   refine aq (ref03_Compare okq.1 okp.1) (by simp [a8]) ?_
   by_cases hc : bx (l[i - 1]'hi1).v l[i].v < 0
   ·have hc' : ¬ 0 ≤ bx (l[i - 1]'hi1).v l[i].v := by omega
    simp [hc, hc']
    rw [ak (by omega) (by omega)]
    refine ⟨i + 1, next (by rw [hpa]; simp [hv, hr, hq, h0'', hc]), by dsimp only; omega, ?_⟩
    refine aC ?_ (by simp [ay]) (by repeat (first | exact aa | refine ah (by simp) ?_)) (by simp [ay])
    repeat (first | exact ae | refine aj (by simp) ?_)
   ·have hc' : 0 ≤ bx (l[i - 1]'hi1).v l[i].v := by omega
    have := bad (by rw [hpa]; simp [h0, h0'', hc])
    simp [this, hc']
 ·have hil : i = l.length := by omega
  subst hil
  have hall : (List.range l.length).all (dS l) = true := by
   rw [List.all_eq_true]; intro j hj; exact hb j (by simpa using hj)
  simp [h1, ay, hall]
  refine ag (ref04_fit hm.rf) (by simp [Raw.v]) ?_
  cases a1 : cQ m.rf with
  | false => simp
  | true =>
  simp
  refine ag (ref04_fit hm.lo) (by simp [Raw.v]) ?_
  cases a2 : cQ m.lo with
  | false => simp
  | true =>
  simp
  refine ag (ref04_fit hm.f0) (by simp [Raw.v]) ?_
  cases a3 : cQ m.f0 with
  | false => simp
  | true =>
  simp
  refine ag (ref04_fit hm.f1) (by simp [Raw.v]) ?_
  cases a4 : cQ m.f1 with
  | false => simp
  | true =>
  simp
  refine ag (ref04_fit hm.f2) (by simp [Raw.v]) ?_
  simp
end Go.Proofs.YtmjgehbpcchjpaaGreatDoor
