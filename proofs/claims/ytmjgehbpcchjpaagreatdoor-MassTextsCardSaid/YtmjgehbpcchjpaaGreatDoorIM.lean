import Derived.Test.YtmjgehbpcchjpaaGreatDoorIL
import Derived.Test.YtmjgehbpcchjpaaGreatDoorIJ
import Derived.Test.YtmjgehbpcchjpaaGreatDoorHW
import Derived.Test.YtmjgehbpcchjpaaGreatDoorHQ
import Derived.Test.YtmjgehbpcchjpaaGreatDoorGL
namespace Go.Proofs.YtmjgehbpcchjpaaGreatDoor.F
open Go Go.Proofs Go.Proofs.YtmjgehbpcchjpaaGreatDoor.E Go.Proofs.YtmjgehbpcchjpaaGreatDoor.Q
abbrev ref04_line : Nat := 97
def ref04_line_c : MFn := ⟨14,(.seq (r [o 3 (.box (.t 1)),o 4 (.mv (.c (.str ⟨#[]⟩)))] [0,3]) (.seq (.seq (r [o 5 (.ld (some 3) (.t 3)),o 6 (.call 88 [(.t 5)]),o 7 (.bin .eql (.t 6) (i 0))] [0,3,7]) (.cond (.t 7) (.seq (r [o 4 (.mv (.c (.str ⟨#[]⟩)))] [4]) .ret) .skip)) (.seq (r [o 8 (.mv (.t 0)),o 9 (.binT .add (.t 8) (.c (.str ⟨#[58,32]⟩))),o 10 (.ld (some 3) (.t 3)),o 11 (.call 143 [(.t 10)]),o 12 (.binT .add (.t 9) (.t 11)),o 13 (.binT .add (.t 12) (.c (.str ⟨#[10]⟩))),o 4 (.mv (.t 13))] [4]) .ret))),[.t 4]⟩
theorem ref04_line_ok : cFn Tryz.prog (kps [[0,3],[0,3,7],[4],[4]]) [] 97 = some ref04_line_c := by kernel_rfl
abbrev ref04_Text : Nat := 34
def ref04_Text_c : MFn := ⟨52,(.seq (r [o 1 (.box (.t 0)),o 2 (.mv (.c (.str ⟨#[]⟩)))] [1]) (.seq (r [o 3 (.mv (.c (.str ⟨#[]⟩)))] [1,3]) (.seq (r [o 6 (.ld (some 16) (.t 1)),o 7 (.call 89 [(.t 6)]),o 4 (.mv (.t 7))] [1,3,4]) (.seq (.seq (r [o 5 (.mv (i 0))] [1,3,4,5]) (.block 0 (.loop (.seq (.seq (r [o 8 (.mv (.t 5)),o 9 (.mv (.t 4)),o 10 (.lenS (.t 9)),o 11 (.bin .lss (.t 8) (.t 10))] [1,3,4,5,11]) (.cond (.t 11) .skip (.exit 0))) (.seq (.block 1 (r [o 14 (.mv (.t 3)),o 15 (.mv (.t 4)),o 16 (.mv (.t 5)),o 17 (.ixA 6 (.t 15) (.t 16)),o 18 (.fA 0 (.t 17)),o 19 (.ld (some 3) (.t 18)),o 20 (.callF 98 [(.t 19)]),o 21 (.mv (.t 4)),o 22 (.mv (.t 5)),o 23 (.ixA 6 (.t 21) (.t 22)),o 24 (.fA 3 (.t 23)),o 25 (.ld (some 3) (.t 24)),o 26 (.callF 97 [(.t 20),(.t 25)]),o 27 (.binT .add (.t 14) (.t 26)),o 3 (.mv (.t 27))] [1,3,4,5])) (r [o 12 (.mv (.t 5)),o 13 (.bin .add (.t 12) (i 1)),o 5 (.mv (.t 13))] [1,3,4,5])))))) (.seq (r [o 28 (.mv (.t 3)),o 29 (.fA 1 (.t 1)),o 30 (.ld (some 3) (.t 29)),o 31 (.callF 97 [(.c (.str ⟨#[114,101,102,117,115,101,100]⟩)),(.t 30)]),o 32 (.binT .add (.t 28) (.t 31)),o 33 (.fA 4 (.t 1)),o 34 (.ld (some 3) (.t 33)),o 35 (.callF 97 [(.c (.str ⟨#[108,111,115,116]⟩)),(.t 34)]),o 36 (.binT .add (.t 32) (.t 35)),o 37 (.fA 7 (.t 1)),o 38 (.ixArr 3 3 (.t 37) (i 0)),o 39 (.ld (some 3) (.t 38)),o 40 (.callF 97 [(.c (.str ⟨#[111,118,101,114]⟩)),(.t 39)]),o 41 (.binT .add (.t 36) (.t 40)),o 42 (.fA 7 (.t 1)),o 43 (.ixArr 3 3 (.t 42) (i 1)),o 44 (.ld (some 3) (.t 43)),o 45 (.callF 97 [(.c (.str ⟨#[122,101,114,111]⟩)),(.t 44)]),o 46 (.binT .add (.t 41) (.t 45)),o 47 (.fA 7 (.t 1)),o 48 (.ixArr 3 3 (.t 47) (i 2)),o 49 (.ld (some 3) (.t 48)),o 50 (.callF 97 [(.c (.str ⟨#[108,111,110,103]⟩)),(.t 49)]),o 51 (.binT .add (.t 46) (.t 50)),o 2 (.mv (.t 51))] [2]) .ret))))),[.t 2]⟩
theorem ref04_Text_ok : cFn Tryz.prog (kps [[1],[1,3],[1,3,4],[1,3,4,5],[1,3,4,5,11],[1,3,4,5],[1,3,4,5],[2]]) [] 34 = some ref04_Text_c := by kernel_rfl
abbrev ref04_Same : Nat := 32
def ref04_Same_c : MFn := ⟨83,(.seq (r [o 2 (.box (.t 0)),o 3 (.box (.t 1)),o 4 (.mv (.c (.bool false)))] [2,3]) (.seq (r [o 10 (.ld (some 16) (.t 2)),o 11 (.callF 89 [(.t 10)]),o 12 (.ld (some 16) (.t 3)),o 13 (.callF 89 [(.t 12)]),o 5 (.mv (.t 11)),o 6 (.mv (.t 13))] [2,3,5,6]) (.seq (r [o 14 (.mv (.t 5)),o 15 (.lenS (.t 14)),o 16 (.mv (.t 6)),o 17 (.lenS (.t 16)),o 18 (.bin .eql (.t 15) (.t 17)),o 19 (.mv (.t 18)),y 20 19 (.fA 1 (.t 2)),y 21 19 (.ld (some 3) (.t 20)),y 22 19 (.fA 1 (.t 3)),y 23 19 (.ld (some 3) (.t 22)),y 24 19 (.call 94 [(.t 21),(.t 23)]),o 25 (.pick (.t 19) (.t 24) (.c (.bool false))),o 26 (.mv (.t 25)),y 27 26 (.fA 4 (.t 2)),y 28 26 (.ld (some 3) (.t 27)),y 29 26 (.fA 4 (.t 3)),y 30 26 (.ld (some 3) (.t 29)),y 31 26 (.call 94 [(.t 28),(.t 30)]),o 32 (.pick (.t 26) (.t 31) (.c (.bool false))),o 7 (.mv (.t 32))] [2,3,5,6,7]) (.seq (.seq (r [o 8 (.mv (i 0))] [2,3,5,6,7,8]) (.block 0 (.loop (.seq (.seq (r [o 33 (.mv (.t 7)),o 34 (.mv (.t 33)),y 35 34 (.mv (.t 8)),y 36 34 (.mv (.t 5)),y 37 34 (.lenS (.t 36)),y 38 34 (.bin .lss (.t 35) (.t 37)),o 39 (.pick (.t 34) (.t 38) (.c (.bool false)))] [2,3,5,6,7,8,39]) (.cond (.t 39) .skip (.exit 0))) (.seq (.block 1 (r [o 42 (.mv (.t 5)),o 43 (.mv (.t 8)),o 44 (.ixA 6 (.t 42) (.t 43)),o 45 (.fA 0 (.t 44)),o 46 (.ld (some 3) (.t 45)),o 47 (.mv (.t 6)),o 48 (.mv (.t 8)),o 49 (.ixA 6 (.t 47) (.t 48)),o 50 (.fA 0 (.t 49)),o 51 (.ld (some 3) (.t 50)),o 52 (.callF 95 [(.t 46),(.t 51)]),o 53 (.mv (.t 52)),y 54 53 (.mv (.t 5)),y 55 53 (.mv (.t 8)),y 56 53 (.ixA 6 (.t 54) (.t 55)),y 57 53 (.fA 3 (.t 56)),y 58 53 (.ld (some 3) (.t 57)),y 59 53 (.mv (.t 6)),y 60 53 (.mv (.t 8)),y 61 53 (.ixA 6 (.t 59) (.t 60)),y 62 53 (.fA 3 (.t 61)),y 63 53 (.ld (some 3) (.t 62)),y 64 53 (.callF 94 [(.t 58),(.t 63)]),o 65 (.pick (.t 53) (.t 64) (.c (.bool false))),o 7 (.mv (.t 65))] [2,3,5,6,7,8])) (r [o 40 (.mv (.t 8)),o 41 (.bin .add (.t 40) (i 1)),o 8 (.mv (.t 41))] [2,3,5,6,7,8])))))) (.seq (.seq (r [o 9 (.mv (i 0))] [2,3,7,9]) (.block 2 (.loop (.seq (.seq (r [o 66 (.mv (.t 7)),o 67 (.mv (.t 66)),y 68 67 (.mv (.t 9)),y 69 67 (.bin .lss (.t 68) (i 3)),o 70 (.pick (.t 67) (.t 69) (.c (.bool false)))] [2,3,7,9,70]) (.cond (.t 70) .skip (.exit 2))) (.seq (.block 3 (r [o 73 (.mv (.t 9)),o 74 (.fA 7 (.t 2)),o 75 (.ixArr 3 3 (.t 74) (.t 73)),o 76 (.ld (some 3) (.t 75)),o 77 (.mv (.t 9)),o 78 (.fA 7 (.t 3)),o 79 (.ixArr 3 3 (.t 78) (.t 77)),o 80 (.ld (some 3) (.t 79)),o 81 (.callF 94 [(.t 76),(.t 80)]),o 7 (.mv (.t 81))] [2,3,7,9])) (r [o 71 (.mv (.t 9)),o 72 (.bin .add (.t 71) (i 1)),o 9 (.mv (.t 72))] [2,3,7,9])))))) (.seq (r [o 82 (.mv (.t 7)),o 4 (.mv (.t 82))] [4]) .ret)))))),[.t 4]⟩
theorem ref04_Same_ok : cFn Tryz.prog (kps [[2,3],[2,3,5,6],[2,3,5,6,7],[2,3,5,6,7,8],[2,3,5,6,7,8,39],[2,3,5,6,7,8],[2,3,5,6,7,8],[2,3,7,9],[2,3,7,9,70],[2,3,7,9],[2,3,7,9],[4]]) [] 32 = some ref04_Same_c := by kernel_rfl
end Go.Proofs.YtmjgehbpcchjpaaGreatDoor.F

namespace Go.Proofs.YtmjgehbpcchjpaaGreatDoor
open Go Go.Proofs Go.Proofs.YtmjgehbpcchjpaaGreatDoor.E
set_option linter.unusedSimpArgs false
set_option linter.unusedVariables false
def lineL (word : List UInt8) (q : Rat) : List UInt8 := if q = 0 then [] else word ++ [58, 32] ++ ratL (rawOf q) ++ [10]
def partsL (l : List Part) : List UInt8 := l.flatMap fun p => lineL (valL p.v) p.w.q
def wRef : List UInt8 := [114, 101, 102, 117, 115, 101, 100]
def wLos : List UInt8 := [108, 111, 115, 116]
def wOve : List UInt8 := [111, 118, 101, 114]
def wZer : List UInt8 := [122, 101, 114, 111]
def wLon : List UInt8 := [108, 111, 110, 103]
def msL (m : Ms) : List UInt8 := partsL (normP m.parts) ++ lineL wRef m.rf.q ++ lineL wLos m.lo.q ++ lineL wOve m.f0.q ++ lineL wZer m.f1.q ++ lineL wLon m.f2.q
theorem lineL_len {w : List UInt8} {q : Rat} {K : Nat} (h : Fits q K) : (lineL w q).length ≤ w.length + 20 * K + 7 := by
 unfold lineL
 have := ratL_len (rawOf_ok h)
 split
 ·simp
 ·simp; omega
theorem partsL_take {l : List Part} {i : Nat} (h : i < l.length) : partsL (l.take (i + 1)) = partsL (l.take i) ++ lineL (valL l[i].v) l[i].w.q := by
 unfold partsL
 rw [List.take_succ_eq_append_getElem h, List.flatMap_append]
 simp
theorem partsL_len {B : Nat} : ∀ {l : List Part}, (∀ p ∈ l, (lineL (valL p.v) p.w.q).length ≤ B) → (partsL l).length ≤ l.length * B
 | [], _ => by simp [partsL]
 | a :: l, h => by
   have h1 := h a (by simp)
   have h2 := partsL_len (l := l) fun x hx => h x (by simp [hx])
   unfold partsL at h2 ⊢
   rw [List.flatMap_cons, List.length_append, List.length_cons, Nat.add_mul]
   omega
theorem bs58 : ({ data := #[58, 32] } : ByteArray) = bs [58, 32] := rfl
theorem bs10 : ({ data := #[10] } : ByteArray) = bs [10] := rfl
theorem bsw1 : ({ data := #[114, 101, 102, 117, 115, 101, 100] } : ByteArray) = bs wRef := rfl
theorem bsw2 : ({ data := #[108, 111, 115, 116] } : ByteArray) = bs wLos := rfl
theorem bsw3 : ({ data := #[111, 118, 101, 114] } : ByteArray) = bs wOve := rfl
theorem bsw4 : ({ data := #[122, 101, 114, 111] } : ByteArray) = bs wZer := rfl
theorem bsw5 : ({ data := #[108, 111, 110, 103] } : ByteArray) = bs wLon := rfl
theorem ref04_line {w : List UInt8} {x : Raw} {K : Nat} (hw : w.length ≤ 1000000000) (hK : 1 ≤ K) (hk : K ≤ 2 ^ 24) (ok : x.Ok K) : CallD Tryz.prog F.ref04_line [.str (bs w), x.v] (· = .str (bs (lineL w x.q))) := by
 refine callD_by F.ref04_line_ok ?_
 unfold F.ref04_line_c lineL
 have rl := ratL_len (rawOf_ok (Raw.fits ok hK))
 simp [setOb, List.filter_cons, raw_v]
 refine callK_of (ref02_Sign (rok ok (by omega))) (by simp [toD_rawc, raw_v]) ?_
 by_cases c : x.q = 0
 ·simp [c, sgnR_zero, bsN, setOb, List.filter_cons]
 ·have c2 : ¬ sgnR x.q = 0 := fun h => c (sgnR_zero_iff.1 h)
  have z1 : w.length + 1 + 1 ≤ 1099511627776 := by omega
  have z2 : w.length + 1 + 1 + (ratL (rawOf x.q)).length ≤ 1099511627776 := by omega
  have z3 : w.length + 1 + 1 + (ratL (rawOf x.q)).length + 1 ≤ 1099511627776 := by omega
  have z4 : w.length + ((ratL (rawOf x.q)).length + 1 + 1) ≤ 1099511627776 := by omega
  have z5 : w.length + ((ratL (rawOf x.q)).length + 1 + 1) + 1 ≤ 1099511627776 := by omega
  simp [c, c2, bs58, bs10, bs_app, z1, setOb, List.filter_cons]
  refine callK_of (ref02_Text hK hk ok) (by simp [toD_rawc, raw_v]) ?_
  simp [c, c2, bs58, bs10, bs_app, z1, z2, z3, z4, z5, setOb, List.filter_cons]
structure Txt (m : Ms) (K : Nat) : Prop where
 ok : m.Ok K
 K1 : 1 ≤ K
 Kb : K ≤ 10000
 len : m.parts.length ≤ 1000
 cnt : ∀ p ∈ m.parts, cntT p.v ≤ 1000000
theorem Txt.nrm {m : Ms} {K : Nat} (h : Txt m K) : (normM m).Ok (2 ^ 24) ∧ (normP m.parts).length ≤ 1000 ∧ (∀ p ∈ normP m.parts, p.v.Ok ∧ cntT p.v ≤ 1000000 ∧ p.w.Ok (2 ^ 24) ∧ (lineL (valL p.v) p.w.q).length ≤ 400000000 ∧ p.w.q ≠ 0) := by
 have h1 := h.K1
 have h2 := h.Kb
 have p1 : m.parts.length * (K + 1) ≤ 1000 * 10001 := Nat.mul_le_mul h.len (by omega)
 have ok := normM_ok (K := K) h1 h.ok (K' := 2 ^ 24) (by omega) (by omega)
 refine ⟨ok, Nat.le_trans (normP_len _) h.len, fun p hp => ?_⟩
 obtain ⟨q, hq, e⟩ := normP_vals hp
 have ow := (ok.parts p hp).2
 have ov := (ok.parts p hp).1
 have cn : cntT p.v ≤ 1000000 := e ▸ h.cnt q hq
 refine ⟨ov, cn, ow, ?_, by rw [(normP_w hp).1, rawOf_q]; exact (normP_w hp).2⟩
 have l1 := lineL_len (w := valL p.v) (Raw.fits ow (by omega))
 have l2 := valL_len ov
 omega
theorem five_len {q : Rat} {w : List UInt8} (hw : w.length ≤ 7) (h : Fits q (2 ^ 24)) : (lineL w q).length ≤ 400000000 := by
 have := lineL_len (w := w) h
 omega
set_option maxHeartbeats 8000000 in
theorem ref04_Text {m : Ms} {K : Nat} (h : Txt m K) : CallD Tryz.prog F.ref04_Text [m.v] (· = .str (bs (msL m))) := by
 have K1 := h.K1
 have Kb := h.Kb
 obtain ⟨ok, ln, prt⟩ := h.nrm
 have pts := ref04_parts K1 h.ok h.len (by omega) h.cnt
 refine callD_by F.ref04_Text_ok ?_
 unfold F.ref04_Text_c msL
 simp [setOb, List.filter_cons, msC, tailC]
 refine callK_of pts (by simp [msC, tailC]) ?_
 generalize normP m.parts = L at *
 simp
 have pl' := partsL_len (l := L) fun p hp => (prt p hp).2.2.2.1
 have pb : L.length * 400000000 ≤ 1000 * 400000000 := Nat.mul_le_mul_right _ ln
 refine wm_loop (fun i : Nat => ((((Sl.empty.set 5 (.int .i64 i)).set 4 (pl L)).set 3 (.str (bs (partsL (L.take i))))).set 1 (.ptr 0 0 0), [(0, ⟨.own, 16, [msC m]⟩)])) (fun i => i ≤ L.length) (fun i => L.length - i) 0 (by omega) ?_ ?_
 ·refine weak_obs ?_ (by simp [msC, tailC]) (by repeat (first | exact sin_empty | refine sin_set (by simp) ?_)) (by simp [msC, tailC])
  repeat (first | exact sub_empty | refine sub_set (by simp [partsL, bsN]) ?_)
 intro i hi
 by_cases c : i < L.length
 ·obtain ⟨ov, cn, ow, lb, nz⟩ := prt _ (List.getElem_mem c)
  have st := partsL_take c
  have al : (partsL (L.take i)).length ≤ (L.take i).length * 400000000 := partsL_len fun p hp => (prt p (List.mem_of_mem_take hp)).2.2.2.1
  have ab : (L.take i).length * 400000000 ≤ 1000 * 400000000 := Nat.mul_le_mul_right _ (by rw [List.length_take]; omega)
  have vl := valL_len ov
  have z : (partsL (L.take i)).length + (lineL (valL L[i].v) L[i].w.q).length ≤ 1099511627776 := by omega
  simp [c, setOb, List.filter_cons]
  refine callFK_of (ref03_Text ov cn) (by simp [toD_cells]) ?_
  simp [c]
  refine callFK_of (ref04_line (w := valL L[i].v) (K := 2 ^ 24) (by omega) (by omega) (by omega) ow) (by simp [toD_rawc, raw_v]) ?_
  simp [bs_app, z]
  rw [wrap64 (by omega) (by omega)]
  refine ⟨i + 1, c, by dsimp only; omega, ?_⟩
  refine weak_obs ?_ (by simp [msC, tailC]) (by repeat (first | exact sin_empty | refine sin_set (by simp) ?_)) (by simp [msC, tailC])
  repeat (first | exact sub_empty | refine sub_set (by simp [st]) ?_)
 ·have : i = L.length := by omega
  subst this
  have f : ∀ {x : Raw}, x.Ok K → Fits x.q (2 ^ 24) := fun hx => (Raw.fits hx K1).mono (by omega)
  have b1 := five_len (w := wRef) (by decide) (f h.ok.rf)
  have b2 := five_len (w := wLos) (by decide) (f h.ok.lo)
  have b3 := five_len (w := wOve) (by decide) (f h.ok.f0)
  have b4 := five_len (w := wZer) (by decide) (f h.ok.f1)
  have b5 := five_len (w := wLon) (by decide) (f h.ok.f2)
  simp [msC, tailC, bsw1, bsw2, bsw3, bsw4, bsw5, setOb, List.filter_cons]
  have q1 : (partsL L).length + (lineL wRef m.rf.q).length ≤ 1099511627776 := by omega
  have q2 : (partsL L).length + ((lineL wRef m.rf.q).length + (lineL wLos m.lo.q).length) ≤ 1099511627776 := by omega
  have q3 : (partsL L).length + ((lineL wRef m.rf.q).length + ((lineL wLos m.lo.q).length + (lineL wOve m.f0.q).length)) ≤ 1099511627776 := by omega
  have q4 : (partsL L).length + ((lineL wRef m.rf.q).length + ((lineL wLos m.lo.q).length + ((lineL wOve m.f0.q).length + (lineL wZer m.f1.q).length))) ≤ 1099511627776 := by omega
  have q5 : (partsL L).length + ((lineL wRef m.rf.q).length + ((lineL wLos m.lo.q).length + ((lineL wOve m.f0.q).length + ((lineL wZer m.f1.q).length + (lineL wLon m.f2.q).length)))) ≤ 1099511627776 := by omega
  refine callFK_of (ref04_line (w := wRef) (by decide) K1 (by omega) h.ok.rf) (by simp [Raw.v]) ?_
  simp [bs_app, q1, Nat.add_assoc]
  refine callFK_of (ref04_line (w := wLos) (by decide) K1 (by omega) h.ok.lo) (by simp [Raw.v]) ?_
  simp [bs_app, q2, Nat.add_assoc]
  refine callFK_of (ref04_line (w := wOve) (by decide) K1 (by omega) h.ok.f0) (by simp [Raw.v]) ?_
  simp [bs_app, q3, Nat.add_assoc]
  refine callFK_of (ref04_line (w := wZer) (by decide) K1 (by omega) h.ok.f1) (by simp [Raw.v]) ?_
  simp [bs_app, q4, Nat.add_assoc]
  refine callFK_of (ref04_line (w := wLon) (by decide) K1 (by omega) h.ok.f2) (by simp [Raw.v]) ?_
  simp [bs_app, q5, Nat.add_assoc]
def fiveR (a : Ms) : List (List UInt8 × Raw) := [(wRef, a.rf), (wLos, a.lo), (wOve, a.f0), (wZer, a.f1), (wLon, a.f2)]
def fiveC (x : List UInt8 × Raw) : List V := .str (bs x.1) :: x.2.c
def linesL (l : List (List UInt8 × Raw)) : List UInt8 := l.flatMap fun x => lineL x.1 x.2.q
theorem linesL_take {l : List (List UInt8 × Raw)} {i : Nat} (h : i < l.length) : linesL (l.take (i + 1)) = linesL (l.take i) ++ lineL l[i].1 l[i].2.q := by
 unfold linesL
 rw [List.take_succ_eq_append_getElem h, List.flatMap_append]
 simp
theorem linesL_len : ∀ {l : List (List UInt8 × Raw)}, (∀ x ∈ l, (lineL x.1 x.2.q).length ≤ 400000000) → (linesL l).length ≤ l.length * 400000000
 | [], _ => by simp [linesL]
 | a :: l, h => by
   have h1 := h a (by simp)
   have h2 := linesL_len (l := l) fun x hx => h x (by simp [hx])
   unfold linesL at h2 ⊢
   rw [List.flatMap_cons, List.length_append, List.length_cons, Nat.add_mul]
   omega
theorem fiveC_in (x : List UInt8 × Raw) : ∀ y ∈ fiveC x, ∀ f : Nat → Bool, y.within f = true := by
 intro y hy f
 rcases List.mem_cons.1 hy with rfl | hy
 ·simp [V.within]
 ·exact rawc_within _ y hy
set_option maxHeartbeats 8000000 in
theorem weights_Text {m : Ms} {K : Nat} (h : Txt m K) : CallD Tryz.prog F.weights_Text [m.v] (· = .str (bs (msL m))) := by
 have K1 := h.K1
 have Kb := h.Kb
 obtain ⟨ok, ln, prt⟩ := h.nrm
 have p1 : m.parts.length * (K + 1) ≤ 1000 * 10001 := Nat.mul_le_mul h.len (by omega)
 have come := weights_comeA K1 (by omega) h.ok (by omega) (by have := h.len; omega)
 refine callD_by F.weights_Text_ok ?_
 unfold F.weights_Text_c
 simp [setOb, List.filter_cons, msC, tailC]
 refine callK_of come (by simp [msC, tailC]) ?_
 have eP : normP m.parts = (normM m).parts := rfl
 have eM : msL m = partsL (normM m).parts ++ linesL (fiveR (normM m)) := by
  unfold msL linesL fiveR
  simp [normM, rawOf_q]
 rw [eM]
 rw [eP] at prt ln
 generalize normM m = a at *
 have m16 : (msC a).length = 16 := by simp [msC, tailC]
 have k16 : List.take 16 (msC a) = msC a := by simp [msC, tailC]
 have d16 : List.drop 16 (msC a) = [] := by simp [msC, tailC]
 simp [Ms.v, m16, k16, d16, setOb, List.filter_cons]
 have pl' := partsL_len (l := a.parts) fun p hp => (prt p hp).2.2.2.1
 have pb : a.parts.length * 400000000 ≤ 1000 * 400000000 := Nat.mul_le_mul_right _ ln
 simp [msC, tailC]
 refine wm_loop (fun i : Nat => (((((Sl.empty.set 13 (.int .i64 i)).set 12 (.int .i64 a.parts.length)).set 11 (pl a.parts)).set 3 (.str (bs (partsL (a.parts.take i))))).set 1 (.ptr 0 0 0), [(0, ⟨.own, 16, [msC a]⟩)])) (fun i => i ≤ a.parts.length) (fun i => a.parts.length - i) 0 (by omega) ?_ ?_
 ·refine weak_obs ?_ (by simp [msC, tailC]) (by repeat (first | exact sin_empty | refine sin_set (by simp) ?_)) (by simp [msC, tailC])
  repeat (first | exact sub_empty | refine sub_set (by simp [partsL, bsN]) ?_)
 intro i hi
 by_cases c : i < a.parts.length
 ·obtain ⟨ov, cn, ow, lb, nz⟩ := prt _ (List.getElem_mem c)
  have st := partsL_take c
  have al : (partsL (a.parts.take i)).length ≤ (a.parts.take i).length * 400000000 := partsL_len fun p hp => (prt p (List.mem_of_mem_take hp)).2.2.2.1
  have ab : (a.parts.take i).length * 400000000 ≤ 1000 * 400000000 := Nat.mul_le_mul_right _ (by rw [List.length_take]; omega)
  have vl := valL_len ov
  have rl := ratL_len (rawOf_ok (Raw.fits ow (by omega)))
  have tk : List.take 6 (partC a.parts[i]) = partC a.parts[i] := by simp
  have dk : List.drop 6 (partC a.parts[i]) = [] := List.drop_eq_nil_of_le (by simp)
  have el : lineL (valL a.parts[i].v) a.parts[i].w.q = valL a.parts[i].v ++ 58 :: 32 :: (ratL (rawOf a.parts[i].w.q) ++ [10]) := by
   unfold lineL; rw [if_neg nz]; simp
  have z1 : (valL a.parts[i].v).length + 1 + 1 ≤ 1099511627776 := by omega
  have z2 : (valL a.parts[i].v).length + ((ratL (rawOf a.parts[i].w.q)).length + 1 + 1) ≤ 1099511627776 := by omega
  have z3 : (valL a.parts[i].v).length + ((ratL (rawOf a.parts[i].w.q)).length + 1 + 1) + 1 ≤ 1099511627776 := by omega
  have z4 : (partsL (a.parts.take i)).length + ((valL a.parts[i].v).length + ((ratL (rawOf a.parts[i].w.q)).length + 1 + 1 + 1)) ≤ 1099511627776 := by omega
  have z5 : (valL a.parts[i].v).length + ((ratL (rawOf a.parts[i].w.q)).length + 1 + 1 + 1) ≤ 1099511627776 := by omega
  rw [el] at st
  simp [c, tk, dk, setOb, List.filter_cons]
  refine callFK_of (value_Text ov cn) (by simp [toD_cells]) ?_
  simp [c, bs58, bs10, bs_app, z1, z2, z3, z4, z5, setOb, List.filter_cons]
  refine callFK_of (ratio_Text (K := 2 ^ 24) (by omega) (by omega) ow) (by simp [toD_rawc, raw_v]) ?_
  simp (disch := omega) [if_pos, bs58, bs10, bs_app, setOb, List.filter_cons]
  rw [wrap64 (by omega) (by omega)]
  refine ⟨i + 1, c, by dsimp only; omega, ?_⟩
  refine weak_obs ?_ (by simp [msC, tailC]) (by repeat (first | exact sin_empty | refine sin_set (by simp) ?_)) (by simp [msC, tailC])
  repeat (first | exact sub_empty | refine sub_set (by simp [st]) ?_)
 ·have : i = a.parts.length := by omega
  subst this
  have fv : [[V.str (bs wRef), .bool a.rf.neg, nat a.rf.num, nat a.rf.den], [V.str (bs wLos), .bool a.lo.neg, nat a.lo.num, nat a.lo.den], [V.str (bs wOve), .bool a.f0.neg, nat a.f0.num, nat a.f0.den], [V.str (bs wZer), .bool a.f1.neg, nat a.f1.num, nat a.f1.den], [V.str (bs wLon), .bool a.f2.neg, nat a.f2.num, nat a.f2.den]] = (fiveR a).map fiveC := rfl
  simp [msC, tailC, bsw1, bsw2, bsw3, bsw4, bsw5, setOb, List.filter_cons]
  rw [fv]
  have l5 : (fiveR a).length = 5 := rfl
  have f : ∀ x ∈ fiveR a, x.1.length ≤ 7 ∧ x.2.Ok (2 ^ 24) := fun x hx => by
   simp only [fiveR, List.mem_cons, List.not_mem_nil, or_false] at hx
   rcases hx with rfl | rfl | rfl | rfl | rfl
   ·exact ⟨show wRef.length ≤ 7 by decide, ok.rf⟩
   ·exact ⟨show wLos.length ≤ 7 by decide, ok.lo⟩
   ·exact ⟨show wOve.length ≤ 7 by decide, ok.f0⟩
   ·exact ⟨show wZer.length ≤ 7 by decide, ok.f1⟩
   ·exact ⟨show wLon.length ≤ 7 by decide, ok.f2⟩
  generalize fiveR a = L at *
  have lL : ∀ x ∈ L, (lineL x.1 x.2.q).length ≤ 400000000 := fun x hx => five_len (f x hx).1 (Raw.fits (f x hx).2 (by omega))
  refine wm_loop (fun i : Nat => ((((Sl.empty.set 49 (.int .i64 i)).set 48 (.int .i64 5)).set 47 (.ref 1 0 5)).set 3 (.str (bs (partsL a.parts ++ linesL (L.take i)))), [(1, ⟨.own, 4, L.map fiveC⟩)])) (fun i => i ≤ 5) (fun i => 5 - i) 0 (by omega) ?_ ?_
  ·refine weak_obs ?_ (by simp) (by repeat (first | exact sin_empty | refine sin_set (by simp) ?_)) (fun p hp r hr y hy => by simp at hp; subst hp; obtain ⟨x, _, rfl⟩ := List.mem_map.1 hr; exact fiveC_in x y hy _)
   repeat (first | exact sub_empty | refine sub_set (by simp [linesL]) ?_)
  intro i hi
  by_cases c : i < 5
  ·have c2 : i < L.length := by omega
   obtain ⟨w7, ok2⟩ := f _ (List.getElem_mem c2)
   have lb := lL _ (List.getElem_mem c2)
   have st := linesL_take c2
   have al : (linesL (L.take i)).length ≤ (L.take i).length * 400000000 := linesL_len fun x hx => lL x (List.mem_of_mem_take hx)
   have ab : (L.take i).length * 400000000 ≤ 5 * 400000000 := Nat.mul_le_mul_right _ (by rw [List.length_take]; omega)
   have rl := ratL_len (rawOf_ok (Raw.fits ok2 (by omega)))
   have f4 : (fiveC L[i]).length = 4 := by simp [fiveC, Raw.c]
   have t4 : List.take 4 (fiveC L[i]) = fiveC L[i] := by simp [fiveC, Raw.c]
   have d4 : List.drop 4 (fiveC L[i]) = [] := by simp [fiveC, Raw.c]
   have i5 : (i : Int) < 5 := by omega
   have i5b : (i : Int) < 5 := by omega
   have c5 : (fiveC L[i])[0]? = some (.str (bs L[i].1)) := rfl
   have c8 : ∀ h : 0 < (fiveC L[i]).length, (fiveC L[i])[0]'h = .str (bs L[i].1) := fun _ => rfl
   have c6 : List.drop 1 (fiveC L[i]) = L[i].2.c := rfl
   have c7 : ∀ x : Raw, List.take 3 x.c = x.c := fun x => by simp [Raw.c]
   simp [i5, c2, f4, t4, d4, c5, c6, c7, setOb, List.filter_cons]
   refine callK_of (ratio_Sign (rok ok2 (by omega))) (by simp [toD_rawc, raw_v]) ?_
   by_cases q0 : L[i].2.q = 0
   ·have el : lineL L[i].1 L[i].2.q = [] := by unfold lineL; rw [if_pos q0]
    rw [el, List.append_nil] at st
    simp [q0, sgnR_zero]
    rw [wrap64 (by omega) (by omega)]
    refine ⟨i + 1, c, by dsimp only; omega, ?_⟩
    refine weak_obs ?_ (by simp) (by repeat (first | exact sin_empty | refine sin_set (by simp) ?_)) (fun p hp r hr y hy => by simp at hp; subst hp; obtain ⟨x, _, rfl⟩ := List.mem_map.1 hr; exact fiveC_in x y hy _)
    repeat (first | exact sub_empty | refine sub_set (by simp [st]) ?_)
   ·have s0 : ¬ sgnR L[i].2.q = 0 := fun h => q0 (sgnR_zero_iff.1 h)
    have el : lineL L[i].1 L[i].2.q = L[i].1 ++ 58 :: 32 :: (ratL (rawOf L[i].2.q) ++ [10]) := by
     unfold lineL; rw [if_neg q0]; simp
    rw [el] at st
    simp (disch := omega) [if_pos, s0, c5, c6, c7, c8, f4, bs58, bs10, bs_app, setOb, List.filter_cons]
    refine callFK_of (ratio_Text (K := 2 ^ 24) (by omega) (by omega) ok2) (by simp [toD_rawc, raw_v]) ?_
    simp (disch := omega) [if_pos, bs58, bs10, bs_app, setOb, List.filter_cons]
    rw [wrap64 (by omega) (by omega)]
    refine ⟨i + 1, c, by dsimp only; omega, ?_⟩
    refine weak_obs ?_ (by simp) (by repeat (first | exact sin_empty | refine sin_set (by simp) ?_)) (fun p hp r hr y hy => by simp at hp; subst hp; obtain ⟨x, _, rfl⟩ := List.mem_map.1 hr; exact fiveC_in x y hy _)
    repeat (first | exact sub_empty | refine sub_set (by simp [st]) ?_)
  ·have : i = 5 := by omega
   subst this
   have tl5 : L.take 5 = L := List.take_of_length_le (by omega)
   simp [tl5]
theorem mass_Text {m : Ms} {K : Nat} (h : Txt m K) : CallD Tryz.prog F.mass_Text [m.v] (· = .str (bs (msL m))) := by
 refine callD_by F.mass_Text_ok ?_
 unfold F.mass_Text_c
 have m16 : (msC m).length = 16 := by simp [msC, tailC]
 have k16 : List.take 16 (msC m) = msC m := by simp [msC, tailC]
 simp [Ms.v, m16, k16, setOb, List.filter_cons]
 refine callK_of (weights_Text h) (by simp [msC, tailC]) ?_
 simp
end Go.Proofs.YtmjgehbpcchjpaaGreatDoor

namespace Go.Proofs.YtmjgehbpcchjpaaGreatDoor
open Go Go.Proofs Go.Proofs.YtmjgehbpcchjpaaGreatDoor.E
open Classical
set_option linter.unusedSimpArgs false
set_option linter.unusedVariables false
def CanR (x : Raw) : Prop := x = rawOf x.q
theorem canR (q : Rat) : CanR (rawOf q) := by unfold CanR; rw [rawOf_q]
theorem can_eq {x y : Raw} (hx : CanR x) (hy : CanR y) : x.q = y.q ↔ x = y := ⟨fun h => by rw [hx, hy, h], fun h => by rw [h]⟩
def CanP (l : List Part) : Prop := ∀ p ∈ l, CanR p.w
theorem normP_can (l : List Part) : CanP (normP l) := fun p hp => by rw [(normP_w hp).1]; exact canR _
theorem part_eq {p q : Part} (hp : CanR p.w) (hq : CanR q.w) : (p.v = q.v ∧ p.w.q = q.w.q) ↔ p = q := by
 obtain ⟨v, w⟩ := p
 obtain ⟨u, x⟩ := q
 simp only [Part.mk.injEq]
 rw [can_eq hp hq]
theorem weights_Same_1G {p q : Part} (hv : p.v.Ok) (hw : p.w.Ok (2 ^ 33)) (hu : q.v.Ok) (hx : q.w.Ok (2 ^ 33)) (c1 : CanR p.w) (c2 : CanR q.w) : CallD Tryz.prog F.weights_Same_1 [.agg (partC p), .agg (partC q)] (· = .bool (decide (p = q))) := by
 refine callD_by F.weights_Same_1_ok ?_
 unfold F.weights_Same_1_c
 have e3 : ∀ p : Part, List.take 3 (partC p) = p.v.cells := fun p => by unfold partC; exact List.take_left' (by simp)
 have d3 : ∀ p : Part, List.drop 3 (partC p) = p.w.c := fun p => by unfold partC; exact List.drop_left' (by simp)
 have pe := part_eq c1 c2
 simp [setOb, List.filter_cons]
 refine callK_of (value_Same hv hu) (by simp [toD_cells]) ?_
 by_cases ev : p.v = q.v
 ·simp [ev]
  refine callK_of (ratio_Same hw hx) (by simp [toD_rawc, raw_v]) ?_
  by_cases ew : p.w.q = q.w.q
  ·have := pe.1 ⟨ev, ew⟩
   simp [this]
  ·have : ¬ p = q := fun h => ew (pe.2 h).2
   simp [ew, this]
 ·have : ¬ p = q := fun h => ev (pe.2 h).1
  simp [ev, this]
theorem equal_PartG {l m : List Part} (hl : l.length ≤ 1000000) (hm : m.length ≤ 1000000) (ho : ∀ p ∈ l, p.v.Ok ∧ p.w.Ok (2 ^ 33)) (ho2 : ∀ p ∈ m, p.v.Ok ∧ p.w.Ok (2 ^ 33)) (c1 : CanP l) (c2 : CanP m) : CallD Tryz.prog F.slices_EqualFunc_Part_Part_Part_Part [pl l, pl m, .clo F.weights_Same_1 []] (· = .bool (decide (l = m))) := by
 refine callD_by F.slices_EqualFunc_Part_Part_Part_Part_ok ?_
 unfold F.slices_EqualFunc_Part_Part_Part_Part_c
 by_cases el : l.length = m.length
 case neg =>
  have ne : ¬ l = m := fun h => el (by rw [h])
  have el2 : ¬ (l.length : Int) = (m.length : Int) := by omega
  simp [el, ne]
  intro h; omega
 simp [el]
 refine wm_loop (fun g : Nat => (((((Sl.empty.set 17 (.int .i64 g)).set 16 (.int .i64 l.length)).set 15 (pl l)).set 2 (.clo F.weights_Same_1 [])).set 1 (pl m), [])) (fun g => g ≤ l.length ∧ l.take g = m.take g) (fun g => l.length - g) 0 (by simp) ?_ ?_
 ·exact weak_p (by repeat (first | exact sub_empty | refine sub_set (by simp [el]) ?_)) (by repeat (first | exact sin_empty | refine sin_set (by simp) ?_))
 rintro i ⟨hi, hE⟩
 by_cases h1 : i < l.length
 ·have h2 : i < m.length := by omega
  obtain ⟨okv, okw⟩ := ho _ (List.getElem_mem h1)
  obtain ⟨okv2, okw2⟩ := ho2 _ (List.getElem_mem h2)
  have tk : ∀ p : Part, List.take 6 (partC p) = partC p := fun p => by simp
  have stp := List.take_succ_eq_append_getElem h1
  have stp2 := List.take_succ_eq_append_getElem h2
  simp [h1, h2, tk, setOb, List.filter_cons]
  refine ⟨_, _, ⟨rfl, rfl⟩, callK_of (weights_Same_1G okv okw okv2 okw2 (c1 _ (List.getElem_mem h1)) (c2 _ (List.getElem_mem h2))) (by simp [toD_partC]) ?_⟩
  by_cases e : l[i] = m[i]
  ·simp [e]
   rw [wrap64 (by omega) (by omega)]
   refine ⟨i + 1, ⟨h1, by rw [stp, stp2, hE, e]⟩, by dsimp only; omega, ?_⟩
   exact weak_p (by repeat (first | exact sub_empty | refine sub_set (by simp) ?_)) (by repeat (first | exact sin_empty | refine sin_set (by simp) ?_))
  ·have ne : ¬ l = m := fun h => e (by subst h; rfl)
   simp [e, ne]
 ·have : l = m := by
   have hil : i = l.length := by omega
   rw [hil, List.take_length, el, List.take_length] at hE
   exact hE
  have td := eq_true this
  simp [h1, td]
theorem normM_eq {a b : Ms} (h : a = b) : a.parts = b.parts ∧ a.rf = b.rf ∧ a.lo = b.lo ∧ a.f0 = b.f0 ∧ a.f1 = b.f1 ∧ a.f2 = b.f2 := by subst h; exact ⟨rfl, rfl, rfl, rfl, rfl, rfl⟩
theorem ms_ext {a b : Ms} (h : a.parts = b.parts) (h1 : a.rf = b.rf) (h2 : a.lo = b.lo) (h3 : a.f0 = b.f0) (h4 : a.f1 = b.f1) (h5 : a.f2 = b.f2) : a = b := by
 cases a; cases b; simp_all
structure CanM (m : Ms) : Prop where
 p : CanP m.parts
 rf : CanR m.rf
 lo : CanR m.lo
 f0 : CanR m.f0
 f1 : CanR m.f1
 f2 : CanR m.f2
theorem normM_can (m : Ms) : CanM (normM m) := ⟨normP_can _, canR _, canR _, canR _, canR _, canR _⟩
set_option maxHeartbeats 8000000 in
theorem weights_SameG {m n : Ms} {K : Nat} (hK : 1 ≤ K) (hb : K ≤ 1000000) (hm : m.Ok K) (hn : n.Ok K) (lm : m.parts.length ≤ 1000) (ln : n.parts.length ≤ 1000) : CallD Tryz.prog F.weights_Same [m.v, n.v] (· = .bool (decide (normM m = normM n))) := by
 have p1 : m.parts.length * (K + 1) ≤ 1000 * 1000001 := Nat.mul_le_mul lm (by omega)
 have p2 : n.parts.length * (K + 1) ≤ 1000 * 1000001 := Nat.mul_le_mul ln (by omega)
 have cm := weights_comeA hK (by omega) hm (by omega) (by omega)
 have cn := weights_comeA hK (by omega) hn (by omega) (by omega)
 have ok := normM_ok (K := K) hK hm (K' := 2 ^ 30) (by omega) (by omega)
 have ok2 := normM_ok (K := K) hK hn (K' := 2 ^ 30) (by omega) (by omega)
 have len := normM_len m
 have len2 := normM_len n
 have ca := normM_can m
 have cb := normM_can n
 refine callD_by F.weights_Same_ok ?_
 unfold F.weights_Same_c
 simp [setOb, List.filter_cons, msC, tailC]
 refine callFK_of cm (by simp [msC, tailC]) ?_
 simp [msC, tailC]
 refine callFK_of cn (by simp [msC, tailC]) ?_
 generalize normM m = a at *
 generalize normM n = b at *
 simp [msC, tailC, setOb, List.filter_cons]
 have rs : ∀ {x y : Raw}, x.Ok (2 ^ 30) → y.Ok (2 ^ 30) → CanR x → CanR y → CallD Tryz.prog F.ratio_Same [x.v, y.v] (· = .bool (decide (x = y))) := fun {x y} hx hy c1 c2 => by
  have := ratio_Same (rok hx (show 2 ^ 30 ≤ 2 ^ 33 by omega)) (rok hy (show 2 ^ 30 ≤ 2 ^ 33 by omega))
  have e : decide (x.q = y.q) = decide (x = y) := by rw [Bool.eq_iff_iff]; simp [can_eq c1 c2]
  rwa [e] at this
 have fin : ∀ {x y : Raw} (g : Ms → Raw), g a = x → g b = y → ¬ x = y → ¬ a = b := fun g h1 h2 h3 h => h3 (by rw [← h1, ← h2, h])
 refine wm_loop (fun g : Nat => (((Sl.empty.set 10 (.int .i64 g)).set 3 (.ptr 1 0 0)).set 2 (.ptr 0 0 0), [(1, ⟨.own, 16, [msC b]⟩), (0, ⟨.own, 16, [msC a]⟩)])) (fun g => g ≤ 3 ∧ (1 ≤ g → a.f0 = b.f0) ∧ (2 ≤ g → a.f1 = b.f1) ∧ (3 ≤ g → a.f2 = b.f2)) (fun g => 3 - g) 0 (by simp) ?_ ?_
 ·refine weak_obs ?_ (by simp [tailC, msC]) (by repeat (first | exact sin_empty | refine sin_set (by simp) ?_)) (by simp [tailC, msC])
  repeat (first | exact sub_empty | refine sub_set (by simp) ?_)
 rintro g ⟨hg, g0, g1, g2⟩
 by_cases c : g < 3
 ·have hg3 : g = 0 ∨ g = 1 ∨ g = 2 := by omega
  rcases hg3 with e | e | e
  ·subst e
   simp [tailC, msC, setOb, List.filter_cons]
   refine callFK_of (rs ok.f0 ok2.f0 ca.f0 cb.f0) (by simp [Raw.v]) ?_
   by_cases e : a.f0 = b.f0
   ·simp [e]
    rw [wrap64 (by omega) (by omega)]
    refine ⟨1, ⟨by omega, fun h => by omega, fun h => by omega⟩, by dsimp only; omega, ?_⟩
    refine weak_obs ?_ (by simp [tailC, msC, e]) (by repeat (first | exact sin_empty | refine sin_set (by simp) ?_)) (by simp [tailC, msC])
    repeat (first | exact sub_empty | refine sub_set (by simp) ?_)
   ·simp [e, fin Ms.f0 rfl rfl e]
  ·subst e
   simp [tailC, msC, setOb, List.filter_cons]
   refine callFK_of (rs ok.f1 ok2.f1 ca.f1 cb.f1) (by simp [Raw.v]) ?_
   by_cases e : a.f1 = b.f1
   ·simp [e]
    rw [wrap64 (by omega) (by omega)]
    refine ⟨2, ⟨by omega, fun _ => g0 (by omega), fun h => by omega⟩, by dsimp only; omega, ?_⟩
    refine weak_obs ?_ (by simp [tailC, msC, e]) (by repeat (first | exact sin_empty | refine sin_set (by simp) ?_)) (by simp [tailC, msC])
    repeat (first | exact sub_empty | refine sub_set (by simp) ?_)
   ·simp [e, fin Ms.f1 rfl rfl e]
  ·subst e
   simp [tailC, msC, setOb, List.filter_cons]
   refine callFK_of (rs ok.f2 ok2.f2 ca.f2 cb.f2) (by simp [Raw.v]) ?_
   by_cases e : a.f2 = b.f2
   ·simp [e]
    rw [wrap64 (by omega) (by omega)]
    refine ⟨3, ⟨by omega, fun _ => g0 (by omega), fun _ => g1 (by omega)⟩, by dsimp only; omega, ?_⟩
    refine weak_obs ?_ (by simp [tailC, msC, e]) (by repeat (first | exact sin_empty | refine sin_set (by simp) ?_)) (by simp [tailC, msC])
    repeat (first | exact sub_empty | refine sub_set (by simp) ?_)
   ·simp [e, fin Ms.f2 rfl rfl e]
 ·have e : g = 3 := by omega
  subst e
  have e0 := g0 (by omega)
  have e1 := g1 (by omega)
  have e2 := g2 (by omega)
  simp [tailC, msC, setOb, List.filter_cons]
  refine callK_of (rs ok.rf ok2.rf ca.rf cb.rf) (by simp [Raw.v]) ?_
  by_cases e3 : a.rf = b.rf
  case neg => simp [e3, fin Ms.rf rfl rfl e3]
  simp [e3]
  refine callK_of (rs ok.lo ok2.lo ca.lo cb.lo) (by simp [Raw.v]) ?_
  by_cases e4 : a.lo = b.lo
  case neg => simp [e4, fin Ms.lo rfl rfl e4]
  simp [e4]
  refine callK_of (equal_PartG (l := a.parts) (m := b.parts) (by omega) (by omega) (fun p hp => ⟨(ok.parts p hp).1, rok (ok.parts p hp).2 (by omega)⟩) (fun p hp => ⟨(ok2.parts p hp).1, rok (ok2.parts p hp).2 (by omega)⟩) ca.p cb.p) (by simp) ?_
  by_cases e5 : a.parts = b.parts
  ·have : a = b := ms_ext e5 e3 e4 e0 e1 e2
   simp [eq_true this, eq_true e5]
  ·have : ¬ a = b := fun h => e5 (by rw [h])
   simp [this, e5]
theorem rawOf_inj {a b : Rat} : rawOf a = rawOf b ↔ a = b := ⟨fun h => by rw [← rawOf_q a, h, rawOf_q], fun h => by rw [h]⟩
theorem normM_iff {m n : Ms} : normM m = normM n ↔ (normP m.parts = normP n.parts ∧ m.rf.q = n.rf.q ∧ m.lo.q = n.lo.q) ∧ m.f0.q = n.f0.q ∧ m.f1.q = n.f1.q ∧ m.f2.q = n.f2.q := by
 constructor
 ·intro h
  obtain ⟨h0, h1, h2, h3, h4, h5⟩ := normM_eq h
  exact ⟨⟨h0, rawOf_inj.1 h1, rawOf_inj.1 h2⟩, rawOf_inj.1 h3, rawOf_inj.1 h4, rawOf_inj.1 h5⟩
 ·rintro ⟨⟨h0, h1, h2⟩, h3, h4, h5⟩
  exact ms_ext h0 (rawOf_inj.2 h1) (rawOf_inj.2 h2) (rawOf_inj.2 h3) (rawOf_inj.2 h4) (rawOf_inj.2 h5)
set_option maxHeartbeats 8000000 in
theorem ref04_SameG {m n : Ms} {K : Nat} (hK : 1 ≤ K) (hb : K ≤ 10000) (hm : m.Ok K) (hn : n.Ok K) (lm : m.parts.length ≤ 1000) (ln : n.parts.length ≤ 1000) (cm : ∀ p ∈ m.parts, cntT p.v ≤ 1000000) (cn : ∀ p ∈ n.parts, cntT p.v ≤ 1000000) : CallD Tryz.prog F.ref04_Same [m.v, n.v] (· = .bool (decide (normM m = normM n))) := by
 have p1 : m.parts.length * (K + 1) ≤ 1000 * 10001 := Nat.mul_le_mul lm (by omega)
 have p2 : n.parts.length * (K + 1) ≤ 1000 * 10001 := Nat.mul_le_mul ln (by omega)
 have ok := (normM_ok (K := K) hK hm (K' := 2 ^ 30) (by omega) (by omega)).parts
 have ok2 := (normM_ok (K := K) hK hn (K' := 2 ^ 30) (by omega) (by omega)).parts
 have len : (normP m.parts).length ≤ 1000 := Nat.le_trans (normP_len _) lm
 have len2 : (normP n.parts).length ≤ 1000 := Nat.le_trans (normP_len _) ln
 have ca := normP_can m.parts
 have cb := normP_can n.parts
 have k1 := ref04_parts hK hm lm (by omega) cm
 have k2 := ref04_parts hK hn ln (by omega) cn
 have iff := normM_iff (m := m) (n := n)
 refine callD_by F.ref04_Same_ok ?_
 unfold F.ref04_Same_c
 simp [setOb, List.filter_cons, msC, tailC]
 refine callFK_of k1 (by simp [msC, tailC]) ?_
 simp [msC, tailC]
 refine callFK_of k2 (by simp [msC, tailC]) ?_
 rw [show (normM m).parts = normP m.parts from rfl] at ok
 rw [show (normM n).parts = normP n.parts from rfl] at ok2
 generalize normP m.parts = x at *
 generalize normP n.parts = y at *
 simp [msC, tailC, setOb, List.filter_cons]
 have r31 : K ≤ 2 ^ 31 := by omega
 rw [show decide (((x.length : Nat) : Int) = ((y.length : Nat) : Int)) = decide (x.length = y.length) from by rw [Bool.eq_iff_iff]; simp only [decide_eq_true_eq]; omega]
 by_cases z1 : x.length = y.length <;> by_cases z2 : m.rf.q = n.rf.q <;> by_cases z3 : m.lo.q = n.lo.q
 all_goals
  simp [z1]
  try refine callK_of (ref02_Same (rok hm.rf r31) (rok hn.rf r31)) (by simp [Raw.v]) ?_
  try simp [z2]
  try refine callK_of (ref02_Same (rok hm.lo r31) (rok hn.lo r31)) (by simp [Raw.v]) ?_
  try simp [z3]
 all_goals
  first
   | (refine wm_loop (fun g : Nat × Bool => ((((((Sl.empty.set 8 (.int .i64 g.1)).set 7 (.bool g.2)).set 6 (pl y)).set 5 (pl x)).set 3 (.ptr 1 0 0)).set 2 (.ptr 0 0 0), [(0, ⟨.own, 16, [msC m]⟩), (1, ⟨.own, 16, [msC n]⟩)])) (fun g => g.1 ≤ x.length ∧ (g.2 = true ↔ (x.length = y.length ∧ m.rf.q = n.rf.q ∧ m.lo.q = n.lo.q) ∧ x.take g.1 = y.take g.1)) (fun g => x.length - g.1) (0, true) ?_ ?_ ?_
      ·simp [z1, z2, z3]
      ·refine weak_obs ?_ (by simp [msC, tailC]) (by repeat (first | exact sin_empty | refine sin_set (by simp) ?_)) (by simp [msC, tailC])
       repeat (first | exact sub_empty | refine sub_set (by simp) ?_))
   | (refine wm_loop (fun g : Nat × Bool => ((((((Sl.empty.set 8 (.int .i64 g.1)).set 7 (.bool g.2)).set 6 (pl y)).set 5 (pl x)).set 3 (.ptr 1 0 0)).set 2 (.ptr 0 0 0), [(0, ⟨.own, 16, [msC m]⟩), (1, ⟨.own, 16, [msC n]⟩)])) (fun g => g.1 ≤ x.length ∧ (g.2 = true ↔ (x.length = y.length ∧ m.rf.q = n.rf.q ∧ m.lo.q = n.lo.q) ∧ x.take g.1 = y.take g.1)) (fun g => x.length - g.1) (0, false) ?_ ?_ ?_
      ·simp [z1, z2, z3]
      ·refine weak_obs ?_ (by simp [msC, tailC]) (by repeat (first | exact sin_empty | refine sin_set (by simp) ?_)) (by simp [msC, tailC])
       repeat (first | exact sub_empty | refine sub_set (by simp) ?_))
 all_goals
  clear z1 z2 z3
  rintro ⟨i, b⟩ ⟨hi, hbb⟩
  dsimp only at hi hbb
  by_cases c : b = true ∧ i < x.length
  ·obtain ⟨rfl, h1⟩ := c
   obtain ⟨P, tk⟩ := hbb.1 rfl
   have h2 : i < y.length := by have := P.1; omega
   obtain ⟨v1, w1⟩ := ok _ (List.getElem_mem h1)
   obtain ⟨v2, w2⟩ := ok2 _ (List.getElem_mem h2)
   have stp := List.take_succ_eq_append_getElem h1
   have stp2 := List.take_succ_eq_append_getElem h2
   have pe := part_eq (ca _ (List.getElem_mem h1)) (cb _ (List.getElem_mem h2))
   simp [h1, h2, setOb, List.filter_cons]
   refine callFK_of (ref03_Same v1 v2) (by simp [toD_cells]) ?_
   by_cases ev : x[i].v = y[i].v
   ·have e0 : cmpT x[i].v y[i].v = 0 := (cmpT_zero _ _).2 ev
    simp [e0, h1, h2]
    refine callFK_of (ref02_Same (rok w1 (by omega)) (rok w2 (by omega))) (by simp [toD_rawc, raw_v]) ?_
    simp
    rw [wrap64 (by omega) (by omega)]
    refine ⟨(i + 1, decide (x[i].w.q = y[i].w.q)), ⟨h1, ?_⟩, by dsimp only; omega, ?_⟩
    ·dsimp only
     rw [stp, stp2, decide_eq_true_iff]
     exact ⟨fun h => ⟨P, by rw [tk, pe.1 ⟨ev, h⟩]⟩, fun ⟨_, h⟩ => (pe.2 (by rw [tk] at h; simpa using List.append_cancel_left h)).2⟩
    ·refine weak_obs ?_ (by simp [msC, tailC]) (by repeat (first | exact sin_empty | refine sin_set (by simp) ?_)) (by simp [msC, tailC])
     repeat (first | exact sub_empty | refine sub_set (by simp) ?_)
   ·have e0 : ¬ cmpT x[i].v y[i].v = 0 := fun h => ev ((cmpT_zero _ _).1 h)
    simp [e0]
    rw [wrap64 (by omega) (by omega)]
    refine ⟨(i + 1, false), ⟨h1, ?_⟩, by dsimp only; omega, ?_⟩
    ·dsimp only
     rw [stp, stp2]
     exact ⟨fun h => (by cases h), fun ⟨_, h⟩ => absurd (pe.2 (by rw [tk] at h; simpa using List.append_cancel_left h)).1 ev⟩
    ·refine weak_obs ?_ (by simp [msC, tailC]) (by repeat (first | exact sin_empty | refine sin_set (by simp) ?_)) (by simp [msC, tailC])
     repeat (first | exact sub_empty | refine sub_set (by simp) ?_)
  ·have hx : b = true ↔ x = y ∧ m.rf.q = n.rf.q ∧ m.lo.q = n.lo.q := by
    cases hbv : b with
    | false =>
      rw [hbv] at hbb
      refine ⟨fun h => (by cases h), fun ⟨h0, h1, h2⟩ => hbb.2 ⟨⟨by rw [h0], h1, h2⟩, by rw [h0]⟩⟩
    | true =>
      rw [hbv] at hbb
      obtain ⟨⟨P1, P2, P3⟩, tk⟩ := hbb.1 rfl
      have : i = x.length := by
       have : ¬ i < x.length := fun h => c ⟨hbv, h⟩
       omega
      rw [this, List.take_length, P1, List.take_length] at tk
      exact ⟨fun _ => ⟨tk, P2, P3⟩, fun _ => rfl⟩
   have ex : b = false ∨ (b = true ∧ i = x.length) := by
    cases hbv : b with
    | false => exact .inl rfl
    | true => exact .inr ⟨rfl, by have : ¬ i < x.length := fun h => c ⟨hbv, h⟩; omega⟩
   have lp : ∀ b : Bool, (b = true ↔ x = y ∧ m.rf.q = n.rf.q ∧ m.lo.q = n.lo.q) → ((b = true ↔ (x = y ∧ m.rf.q = n.rf.q ∧ m.lo.q = n.lo.q) ∧ (1 ≤ 0 → m.f0.q = n.f0.q) ∧ (2 ≤ 0 → m.f1.q = n.f1.q) ∧ (3 ≤ 0 → m.f2.q = n.f2.q))) := fun b hx => ⟨fun h => ⟨hx.1 h, fun h => by omega, fun h => by omega, fun h => by omega⟩, fun h => hx.2 h.1⟩
   have fin : ∀ (b : Bool), (b = true ↔ (x = y ∧ m.rf.q = n.rf.q ∧ m.lo.q = n.lo.q) ∧ m.f0.q = n.f0.q ∧ m.f1.q = n.f1.q ∧ m.f2.q = n.f2.q) → decide (normM m = normM n) = b := fun b h => by
    rw [Bool.eq_iff_iff, decide_eq_true_iff, iff, h]
   rcases ex with rfl | ⟨rfl, rfl⟩
   ·simp
    refine wm_loop (fun g : Nat × Bool => ((((Sl.empty.set 9 (.int .i64 g.1)).set 7 (.bool g.2)).set 3 (.ptr 1 0 0)).set 2 (.ptr 0 0 0), [(0, ⟨.own, 16, [msC m]⟩), (1, ⟨.own, 16, [msC n]⟩)])) (fun g => g.1 ≤ 3 ∧ (g.2 = true ↔ (x = y ∧ m.rf.q = n.rf.q ∧ m.lo.q = n.lo.q) ∧ (1 ≤ g.1 → m.f0.q = n.f0.q) ∧ (2 ≤ g.1 → m.f1.q = n.f1.q) ∧ (3 ≤ g.1 → m.f2.q = n.f2.q))) (fun g => 3 - g.1) (0, false) ⟨by omega, lp _ hx⟩ ?_ ?_
    ·refine weak_obs ?_ (by simp [msC, tailC]) (by repeat (first | exact sin_empty | refine sin_set (by simp) ?_)) (by simp [msC, tailC])
     repeat (first | exact sub_empty | refine sub_set (by simp) ?_)
    rintro ⟨i, b⟩ ⟨hi, hbb⟩
    dsimp only at hi hbb
    by_cases c : b = true ∧ i < 3
    ·obtain ⟨rfl, h1⟩ := c
     obtain ⟨P, q1, q2, q3⟩ := hbb.1 rfl
     obtain rfl | rfl | rfl : i = 0 ∨ i = 1 ∨ i = 2 := by omega
     ·simp [msC, tailC, setOb, List.filter_cons]
      refine callFK_of (ref02_Same (rok hm.f0 r31) (rok hn.f0 r31)) (by simp [Raw.v]) ?_
      simp
      first | rw [wrap64 (by omega) (by omega)] | skip
      refine ⟨(1, decide (m.f0.q = n.f0.q)), ⟨by dsimp only; omega, ?_⟩, by dsimp only; omega, ?_⟩
      ·dsimp only
       rw [decide_eq_true_iff]
       exact ⟨fun h => ⟨P, fun _ => h, fun h => by omega, fun h => by omega⟩, fun h => h.2.1 (by omega)⟩
      ·refine weak_obs ?_ (by simp [msC, tailC]) (by repeat (first | exact sin_empty | refine sin_set (by simp) ?_)) (by simp [msC, tailC])
       repeat (first | exact sub_empty | refine sub_set (by simp) ?_)
     ·simp [msC, tailC, setOb, List.filter_cons]
      refine callFK_of (ref02_Same (rok hm.f1 r31) (rok hn.f1 r31)) (by simp [Raw.v]) ?_
      simp
      first | rw [wrap64 (by omega) (by omega)] | skip
      refine ⟨(2, decide (m.f1.q = n.f1.q)), ⟨by dsimp only; omega, ?_⟩, by dsimp only; omega, ?_⟩
      ·dsimp only
       rw [decide_eq_true_iff]
       exact ⟨fun h => ⟨P, fun _ => q1 (by omega), fun _ => h, fun h => by omega⟩, fun h => h.2.2.1 (by omega)⟩
      ·refine weak_obs ?_ (by simp [msC, tailC]) (by repeat (first | exact sin_empty | refine sin_set (by simp) ?_)) (by simp [msC, tailC])
       repeat (first | exact sub_empty | refine sub_set (by simp) ?_)
     ·simp [msC, tailC, setOb, List.filter_cons]
      refine callFK_of (ref02_Same (rok hm.f2 r31) (rok hn.f2 r31)) (by simp [Raw.v]) ?_
      simp
      first | rw [wrap64 (by omega) (by omega)] | skip
      refine ⟨(3, decide (m.f2.q = n.f2.q)), ⟨by dsimp only; omega, ?_⟩, by dsimp only; omega, ?_⟩
      ·dsimp only
       rw [decide_eq_true_iff]
       exact ⟨fun h => ⟨P, fun _ => q1 (by omega), fun _ => q2 (by omega), fun _ => h⟩, fun h => h.2.2.2 (by omega)⟩
      ·refine weak_obs ?_ (by simp [msC, tailC]) (by repeat (first | exact sin_empty | refine sin_set (by simp) ?_)) (by simp [msC, tailC])
       repeat (first | exact sub_empty | refine sub_set (by simp) ?_)
    ·have hf : b = true ↔ (x = y ∧ m.rf.q = n.rf.q ∧ m.lo.q = n.lo.q) ∧ m.f0.q = n.f0.q ∧ m.f1.q = n.f1.q ∧ m.f2.q = n.f2.q := by
      constructor
      ·intro hb
       have : i = 3 := by
        have : ¬ i < 3 := fun h => c ⟨hb, h⟩
        omega
       obtain ⟨P, q1, q2, q3⟩ := hbb.1 hb
       exact ⟨P, q1 (by omega), q2 (by omega), q3 (by omega)⟩
      ·intro ⟨P, q1, q2, q3⟩
       exact hbb.2 ⟨P, fun _ => q1, fun _ => q2, fun _ => q3⟩
     have ex : b = false ∨ (b = true ∧ i = 3) := by
      cases hbv : b with
      | false => exact .inl rfl
      | true => exact .inr ⟨rfl, by have : ¬ i < 3 := fun h => c ⟨hbv, h⟩; omega⟩
     rw [fin b hf]
     rcases ex with rfl | ⟨rfl, rfl⟩ <;> simp
   ·simp
    refine wm_loop (fun g : Nat × Bool => ((((Sl.empty.set 9 (.int .i64 g.1)).set 7 (.bool g.2)).set 3 (.ptr 1 0 0)).set 2 (.ptr 0 0 0), [(0, ⟨.own, 16, [msC m]⟩), (1, ⟨.own, 16, [msC n]⟩)])) (fun g => g.1 ≤ 3 ∧ (g.2 = true ↔ (x = y ∧ m.rf.q = n.rf.q ∧ m.lo.q = n.lo.q) ∧ (1 ≤ g.1 → m.f0.q = n.f0.q) ∧ (2 ≤ g.1 → m.f1.q = n.f1.q) ∧ (3 ≤ g.1 → m.f2.q = n.f2.q))) (fun g => 3 - g.1) (0, true) ⟨by omega, lp _ hx⟩ ?_ ?_
    ·refine weak_obs ?_ (by simp [msC, tailC]) (by repeat (first | exact sin_empty | refine sin_set (by simp) ?_)) (by simp [msC, tailC])
     repeat (first | exact sub_empty | refine sub_set (by simp) ?_)
    rintro ⟨i, b⟩ ⟨hi, hbb⟩
    dsimp only at hi hbb
    by_cases c : b = true ∧ i < 3
    ·obtain ⟨rfl, h1⟩ := c
     obtain ⟨P, q1, q2, q3⟩ := hbb.1 rfl
     obtain rfl | rfl | rfl : i = 0 ∨ i = 1 ∨ i = 2 := by omega
     ·simp [msC, tailC, setOb, List.filter_cons]
      refine callFK_of (ref02_Same (rok hm.f0 r31) (rok hn.f0 r31)) (by simp [Raw.v]) ?_
      simp
      first | rw [wrap64 (by omega) (by omega)] | skip
      refine ⟨(1, decide (m.f0.q = n.f0.q)), ⟨by dsimp only; omega, ?_⟩, by dsimp only; omega, ?_⟩
      ·dsimp only
       rw [decide_eq_true_iff]
       exact ⟨fun h => ⟨P, fun _ => h, fun h => by omega, fun h => by omega⟩, fun h => h.2.1 (by omega)⟩
      ·refine weak_obs ?_ (by simp [msC, tailC]) (by repeat (first | exact sin_empty | refine sin_set (by simp) ?_)) (by simp [msC, tailC])
       repeat (first | exact sub_empty | refine sub_set (by simp) ?_)
     ·simp [msC, tailC, setOb, List.filter_cons]
      refine callFK_of (ref02_Same (rok hm.f1 r31) (rok hn.f1 r31)) (by simp [Raw.v]) ?_
      simp
      first | rw [wrap64 (by omega) (by omega)] | skip
      refine ⟨(2, decide (m.f1.q = n.f1.q)), ⟨by dsimp only; omega, ?_⟩, by dsimp only; omega, ?_⟩
      ·dsimp only
       rw [decide_eq_true_iff]
       exact ⟨fun h => ⟨P, fun _ => q1 (by omega), fun _ => h, fun h => by omega⟩, fun h => h.2.2.1 (by omega)⟩
      ·refine weak_obs ?_ (by simp [msC, tailC]) (by repeat (first | exact sin_empty | refine sin_set (by simp) ?_)) (by simp [msC, tailC])
       repeat (first | exact sub_empty | refine sub_set (by simp) ?_)
     ·simp [msC, tailC, setOb, List.filter_cons]
      refine callFK_of (ref02_Same (rok hm.f2 r31) (rok hn.f2 r31)) (by simp [Raw.v]) ?_
      simp
      first | rw [wrap64 (by omega) (by omega)] | skip
      refine ⟨(3, decide (m.f2.q = n.f2.q)), ⟨by dsimp only; omega, ?_⟩, by dsimp only; omega, ?_⟩
      ·dsimp only
       rw [decide_eq_true_iff]
       exact ⟨fun h => ⟨P, fun _ => q1 (by omega), fun _ => q2 (by omega), fun _ => h⟩, fun h => h.2.2.2 (by omega)⟩
      ·refine weak_obs ?_ (by simp [msC, tailC]) (by repeat (first | exact sin_empty | refine sin_set (by simp) ?_)) (by simp [msC, tailC])
       repeat (first | exact sub_empty | refine sub_set (by simp) ?_)
    ·have hf : b = true ↔ (x = y ∧ m.rf.q = n.rf.q ∧ m.lo.q = n.lo.q) ∧ m.f0.q = n.f0.q ∧ m.f1.q = n.f1.q ∧ m.f2.q = n.f2.q := by
      constructor
      ·intro hb
       have : i = 3 := by
        have : ¬ i < 3 := fun h => c ⟨hb, h⟩
        omega
       obtain ⟨P, q1, q2, q3⟩ := hbb.1 hb
       exact ⟨P, q1 (by omega), q2 (by omega), q3 (by omega)⟩
      ·intro ⟨P, q1, q2, q3⟩
       exact hbb.2 ⟨P, fun _ => q1, fun _ => q2, fun _ => q3⟩
     have ex : b = false ∨ (b = true ∧ i = 3) := by
      cases hbv : b with
      | false => exact .inl rfl
      | true => exact .inr ⟨rfl, by have : ¬ i < 3 := fun h => c ⟨hbv, h⟩; omega⟩
     rw [fin b hf]
     rcases ex with rfl | ⟨rfl, rfl⟩ <;> simp
end Go.Proofs.YtmjgehbpcchjpaaGreatDoor
