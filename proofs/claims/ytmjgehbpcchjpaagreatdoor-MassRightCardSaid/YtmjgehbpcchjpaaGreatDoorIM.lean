import Derived.Test.YtmjgehbpcchjpaaGreatDoorIL
import Derived.Test.YtmjgehbpcchjpaaGreatDoorIJ
import Derived.Test.YtmjgehbpcchjpaaGreatDoorHQ
namespace Go.Proofs.YtmjgehbpcchjpaaGreatDoor
open Go Go.Proofs Go.Proofs.YtmjgehbpcchjpaaGreatDoor.E
set_option linter.unusedSimpArgs false
set_option linter.unusedVariables false
def cY (word : List UInt8) (q : Rat) : List UInt8 := if q = 0 then [] else word ++ [58, 32] ++ ll (ap q) ++ [10]
def dT (l : List Part) : List UInt8 := l.flatMap fun p => cY (dJ p.v) p.w.q
def wRef : List UInt8 := [114, 101, 102, 117, 115, 101, 100]
def wLos : List UInt8 := [108, 111, 115, 116]
def wOve : List UInt8 := [111, 118, 101, 114]
def wZer : List UInt8 := [122, 101, 114, 111]
def wLon : List UInt8 := [108, 111, 110, 103]
def msL (m : Ms) : List UInt8 := dT (cN m.parts) ++ cY wRef m.rf.q ++ cY wLos m.lo.q ++ cY wOve m.f0.q ++ cY wZer m.f1.q ++ cY wLon m.f2.q
theorem oR {w : List UInt8} {q : Rat} {K : Nat} (h : Fits q K) : (cY w q).length ≤ w.length + 20 * K + 7 := by
 unfold cY
 have := nB (cu h)
 split
 ·simp
 ·simp; omega
theorem rd {l : List Part} {i : Nat} (h : i < l.length) : dT (l.take (i + 1)) = dT (l.take i) ++ cY (dJ l[i].v) l[i].w.q := by
 unfold dT
 rw [List.take_succ_eq_append_getElem h, List.flatMap_append]
 simp
theorem gW {B : Nat} : ∀ {l : List Part}, (∀ p ∈ l, (cY (dJ p.v) p.w.q).length ≤ B) → (dT l).length ≤ l.length * B
 | [], _ => by simp [dT]
 | a :: l, h => by
   have h1 := h a (by simp)
   have h2 := gW (l := l) fun x hx => h x (by simp [hx])
   unfold dT at h2 ⊢
   rw [List.flatMap_cons, List.length_append, List.length_cons, Nat.add_mul]
   omega
theorem bs58 : ({ data := #[58, 32] } : ByteArray) = bs [58, 32] := rfl
theorem bs10 : ({ data := #[10] } : ByteArray) = bs [10] := rfl
theorem bsw1 : ({ data := #[114, 101, 102, 117, 115, 101, 100] } : ByteArray) = bs wRef := rfl
theorem bsw2 : ({ data := #[108, 111, 115, 116] } : ByteArray) = bs wLos := rfl
theorem bsw3 : ({ data := #[111, 118, 101, 114] } : ByteArray) = bs wOve := rfl
theorem bsw4 : ({ data := #[122, 101, 114, 111] } : ByteArray) = bs wZer := rfl
theorem bsw5 : ({ data := #[108, 111, 110, 103] } : ByteArray) = bs wLon := rfl
structure Txt (m : Ms) (K : Nat) : Prop where
 ok : m.Ok K
 K1 : 1 ≤ K
 Kb : K ≤ 10000
 len : m.parts.length ≤ 1000
 cnt : ∀ p ∈ m.parts, cB p.v ≤ 1000000
theorem Txt.nrm {m : Ms} {K : Nat} (h : Txt m K) : (bf m).Ok (2 ^ 24) ∧ (cN m.parts).length ≤ 1000 ∧ (∀ p ∈ cN m.parts, p.v.Ok ∧ cB p.v ≤ 1000000 ∧ p.w.Ok (2 ^ 24) ∧ (cY (dJ p.v) p.w.q).length ≤ 400000000 ∧ p.w.q ≠ 0) := by
 have h1 := h.K1
 have h2 := h.Kb
 have p1 : m.parts.length * (K + 1) ≤ 1000 * 10001 := Nat.mul_le_mul h.len (by omega)
 have ok := iw (K := K) h1 h.ok (K' := 2 ^ 24) (by omega) (by omega)
 refine ⟨ok, Nat.le_trans (iX _) h.len, fun p hp => ?_⟩
 obtain ⟨q, hq, e⟩ := fI hp
 have ow := (ok.parts p hp).2
 have ov := (ok.parts p hp).1
 have cn : cB p.v ≤ 1000000 := e ▸ h.cnt q hq
 refine ⟨ov, cn, ow, ?_, by rw [(fX hp).1, bw]; exact (fX hp).2⟩
 have l1 := oR (w := dJ p.v) (Raw.fits ow (by omega))
 have l2 := nT ov
 omega
theorem qu {q : Rat} {w : List UInt8} (hw : w.length ≤ 7) (h : Fits q (2 ^ 24)) : (cY w q).length ≤ 400000000 := by
 have := oR (w := w) h
 omega
def m4 (a : Ms) : List (List UInt8 × Raw) := [(wRef, a.rf), (wLos, a.lo), (wOve, a.f0), (wZer, a.f1), (wLon, a.f2)]
def fU (x : List UInt8 × Raw) : List V := .str (bs x.1) :: x.2.c
def fH (l : List (List UInt8 × Raw)) : List UInt8 := l.flatMap fun x => cY x.1 x.2.q
theorem qQ {l : List (List UInt8 × Raw)} {i : Nat} (h : i < l.length) : fH (l.take (i + 1)) = fH (l.take i) ++ cY l[i].1 l[i].2.q := by
 unfold fH
 rw [List.take_succ_eq_append_getElem h, List.flatMap_append]
 simp
theorem nj : ∀ {l : List (List UInt8 × Raw)}, (∀ x ∈ l, (cY x.1 x.2.q).length ≤ 400000000) → (fH l).length ≤ l.length * 400000000
 | [], _ => by simp [fH]
 | a :: l, h => by
   have h1 := h a (by simp)
   have h2 := nj (l := l) fun x hx => h x (by simp [hx])
   unfold fH at h2 ⊢
   rw [List.flatMap_cons, List.length_append, List.length_cons, Nat.add_mul]
   omega
theorem mZ (x : List UInt8 × Raw) : ∀ y ∈ fU x, ∀ f : Nat → Bool, y.within f = true := by
 intro y hy f
 rcases List.mem_cons.1 hy with rfl | hy
 ·simp [V.within]
 ·exact co _ y hy
set_option maxHeartbeats 8000000 in
theorem weights_Text {m : Ms} {K : Nat} (h : Txt m K) : CallD Tryz.prog F.weights_Text [m.v] (· = .str (bs (msL m))) := by
 have K1 := h.K1
 have Kb := h.Kb
 obtain ⟨ok, ln, prt⟩ := h.nrm
 have p1 : m.parts.length * (K + 1) ≤ 1000 * 10001 := Nat.mul_le_mul h.len (by omega)
 have come := dK K1 (by omega) h.ok (by omega) (by have := h.len; omega)
 refine av F.weights_Text_ok ?_
 unfold F.weights_Text_c
 simp [ac, List.filter_cons, msC, ay]
 refine ag come (by simp [msC, ay]) ?_
 have eP : cN m.parts = (bf m).parts := rfl
 have eM : msL m = dT (bf m).parts ++ fH (m4 (bf m)) := by
  unfold msL fH m4
  simp [bf, bw]
 rw [eM]
 rw [eP] at prt ln
 generalize bf m = a at *
 have m16 : (msC a).length = 16 := by simp [msC, ay]
 have k16 : List.take 16 (msC a) = msC a := by simp [msC, ay]
 have d16 : List.drop 16 (msC a) = [] := by simp [msC, ay]
 simp [Ms.v, m16, k16, d16, ac, List.filter_cons]
 have pl' := gW (l := a.parts) fun p hp => (prt p hp).2.2.2.1
 have pb : a.parts.length * 400000000 ≤ 1000 * 400000000 := Nat.mul_le_mul_right _ ln
 simp [msC, ay]
 refine aD (fun i : Nat => (((((Sl.empty.set 13 (.int .i64 i)).set 12 (.int .i64 a.parts.length)).set 11 (pl a.parts)).set 3 (.str (bs (dT (a.parts.take i))))).set 1 (.ptr 0 0 0), [(0, ⟨.own, 16, [msC a]⟩)])) (fun i => i ≤ a.parts.length) (fun i => a.parts.length - i) 0 (by omega) ?_ ?_
 ·refine aC ?_ (by simp [msC, ay]) (by repeat (first | exact aa | refine ah (by simp) ?_)) (by simp [msC, ay])
  repeat (first | exact ae | refine aj (by simp [dT, bsN]) ?_)
 intro i hi
 by_cases c : i < a.parts.length
 ·obtain ⟨ov, cn, ow, lb, nz⟩ := prt _ (List.getElem_mem c)
  have st := rd c
  have al : (dT (a.parts.take i)).length ≤ (a.parts.take i).length * 400000000 := gW fun p hp => (prt p (List.mem_of_mem_take hp)).2.2.2.1
  have ab : (a.parts.take i).length * 400000000 ≤ 1000 * 400000000 := Nat.mul_le_mul_right _ (by rw [List.length_take]; omega)
  have vl := nT ov
  have rl := nB (cu (Raw.fits ow (by omega)))
  have tk : List.take 6 (aI a.parts[i]) = aI a.parts[i] := by simp
  have dk : List.drop 6 (aI a.parts[i]) = [] := List.drop_eq_nil_of_le (by simp)
  have el : cY (dJ a.parts[i].v) a.parts[i].w.q = dJ a.parts[i].v ++ 58 :: 32 :: (ll (ap a.parts[i].w.q) ++ [10]) := by
   unfold cY; rw [if_neg nz]; simp
  have z1 : (dJ a.parts[i].v).length + 1 + 1 ≤ 1099511627776 := by omega
  have z2 : (dJ a.parts[i].v).length + ((ll (ap a.parts[i].w.q)).length + 1 + 1) ≤ 1099511627776 := by omega
  have z3 : (dJ a.parts[i].v).length + ((ll (ap a.parts[i].w.q)).length + 1 + 1) + 1 ≤ 1099511627776 := by omega
  have z4 : (dT (a.parts.take i)).length + ((dJ a.parts[i].v).length + ((ll (ap a.parts[i].w.q)).length + 1 + 1 + 1)) ≤ 1099511627776 := by omega
  have z5 : (dJ a.parts[i].v).length + ((ll (ap a.parts[i].w.q)).length + 1 + 1 + 1) ≤ 1099511627776 := by omega
  rw [el] at st
  simp [c, tk, dk, ac, List.filter_cons]
  refine aq (value_Text ov cn) (by simp [a8]) ?_
  simp [c, bs58, bs10, dN, z1, z2, z3, z4, z5, ac, List.filter_cons]
  refine aq (ratio_Text (K := 2 ^ 24) (by omega) (by omega) ow) (by simp [bJ, dZ]) ?_
  simp (disch := omega) [if_pos, bs58, bs10, dN, ac, List.filter_cons]
  rw [ak (by omega) (by omega)]
  refine ⟨i + 1, c, by dsimp only; omega, ?_⟩
  refine aC ?_ (by simp [msC, ay]) (by repeat (first | exact aa | refine ah (by simp) ?_)) (by simp [msC, ay])
  repeat (first | exact ae | refine aj (by simp [st]) ?_)
 ·have : i = a.parts.length := by omega
  subst this
  have fv : [[V.str (bs wRef), .bool a.rf.neg, nat a.rf.num, nat a.rf.den], [V.str (bs wLos), .bool a.lo.neg, nat a.lo.num, nat a.lo.den], [V.str (bs wOve), .bool a.f0.neg, nat a.f0.num, nat a.f0.den], [V.str (bs wZer), .bool a.f1.neg, nat a.f1.num, nat a.f1.den], [V.str (bs wLon), .bool a.f2.neg, nat a.f2.num, nat a.f2.den]] = (m4 a).map fU := rfl
  simp [msC, ay, bsw1, bsw2, bsw3, bsw4, bsw5, ac, List.filter_cons]
  rw [fv]
  have l5 : (m4 a).length = 5 := rfl
  have f : ∀ x ∈ m4 a, x.1.length ≤ 7 ∧ x.2.Ok (2 ^ 24) := fun x hx => by
   simp only [m4, List.mem_cons, List.not_mem_nil, or_false] at hx
   rcases hx with rfl | rfl | rfl | rfl | rfl
   ·exact ⟨show wRef.length ≤ 7 by decide, ok.rf⟩
   ·exact ⟨show wLos.length ≤ 7 by decide, ok.lo⟩
   ·exact ⟨show wOve.length ≤ 7 by decide, ok.f0⟩
   ·exact ⟨show wZer.length ≤ 7 by decide, ok.f1⟩
   ·exact ⟨show wLon.length ≤ 7 by decide, ok.f2⟩
  generalize m4 a = L at *
  have lL : ∀ x ∈ L, (cY x.1 x.2.q).length ≤ 400000000 := fun x hx => qu (f x hx).1 (Raw.fits (f x hx).2 (by omega))
  refine aD (fun i : Nat => ((((Sl.empty.set 49 (.int .i64 i)).set 48 (.int .i64 5)).set 47 (.ref 1 0 5)).set 3 (.str (bs (dT a.parts ++ fH (L.take i)))), [(1, ⟨.own, 4, L.map fU⟩)])) (fun i => i ≤ 5) (fun i => 5 - i) 0 (by omega) ?_ ?_
  ·refine aC ?_ (by simp) (by repeat (first | exact aa | refine ah (by simp) ?_)) (fun p hp r hr y hy => by simp at hp; subst hp; obtain ⟨x, _, rfl⟩ := List.mem_map.1 hr; exact mZ x y hy _)
   repeat (first | exact ae | refine aj (by simp [fH]) ?_)
  intro i hi
  by_cases c : i < 5
  ·have c2 : i < L.length := by omega
   obtain ⟨w7, ok2⟩ := f _ (List.getElem_mem c2)
   have lb := lL _ (List.getElem_mem c2)
   have st := qQ c2
   have al : (fH (L.take i)).length ≤ (L.take i).length * 400000000 := nj fun x hx => lL x (List.mem_of_mem_take hx)
   have ab : (L.take i).length * 400000000 ≤ 5 * 400000000 := Nat.mul_le_mul_right _ (by rw [List.length_take]; omega)
   have rl := nB (cu (Raw.fits ok2 (by omega)))
   have f4 : (fU L[i]).length = 4 := by simp [fU, Raw.c]
   have t4 : List.take 4 (fU L[i]) = fU L[i] := by simp [fU, Raw.c]
   have d4 : List.drop 4 (fU L[i]) = [] := by simp [fU, Raw.c]
   have i5 : (i : Int) < 5 := by omega
   have i5b : (i : Int) < 5 := by omega
   have c5 : (fU L[i])[0]? = some (.str (bs L[i].1)) := rfl
   have c8 : ∀ h : 0 < (fU L[i]).length, (fU L[i])[0]'h = .str (bs L[i].1) := fun _ => rfl
   have c6 : List.drop 1 (fU L[i]) = L[i].2.c := rfl
   have c7 : ∀ x : Raw, List.take 3 x.c = x.c := fun x => by simp [Raw.c]
   simp [i5, c2, f4, t4, d4, c5, c6, c7, ac, List.filter_cons]
   refine ag (ratio_Sign (rok ok2 (by omega))) (by simp [bJ, dZ]) ?_
   by_cases q0 : L[i].2.q = 0
   ·have el : cY L[i].1 L[i].2.q = [] := by unfold cY; rw [if_pos q0]
    rw [el, List.append_nil] at st
    simp [q0, d9]
    rw [ak (by omega) (by omega)]
    refine ⟨i + 1, c, by dsimp only; omega, ?_⟩
    refine aC ?_ (by simp) (by repeat (first | exact aa | refine ah (by simp) ?_)) (fun p hp r hr y hy => by simp at hp; subst hp; obtain ⟨x, _, rfl⟩ := List.mem_map.1 hr; exact mZ x y hy _)
    repeat (first | exact ae | refine aj (by simp [st]) ?_)
   ·have s0 : ¬ cH L[i].2.q = 0 := fun h => q0 (gl.1 h)
    have el : cY L[i].1 L[i].2.q = L[i].1 ++ 58 :: 32 :: (ll (ap L[i].2.q) ++ [10]) := by
     unfold cY; rw [if_neg q0]; simp
    rw [el] at st
    simp (disch := omega) [if_pos, s0, c5, c6, c7, c8, f4, bs58, bs10, dN, ac, List.filter_cons]
    refine aq (ratio_Text (K := 2 ^ 24) (by omega) (by omega) ok2) (by simp [bJ, dZ]) ?_
    simp (disch := omega) [if_pos, bs58, bs10, dN, ac, List.filter_cons]
    rw [ak (by omega) (by omega)]
    refine ⟨i + 1, c, by dsimp only; omega, ?_⟩
    refine aC ?_ (by simp) (by repeat (first | exact aa | refine ah (by simp) ?_)) (fun p hp r hr y hy => by simp at hp; subst hp; obtain ⟨x, _, rfl⟩ := List.mem_map.1 hr; exact mZ x y hy _)
    repeat (first | exact ae | refine aj (by simp [st]) ?_)
  ·have : i = 5 := by omega
   subst this
   have tl5 : L.take 5 = L := List.take_of_length_le (by omega)
   simp [tl5]
theorem mass_Text {m : Ms} {K : Nat} (h : Txt m K) : CallD Tryz.prog F.mass_Text [m.v] (· = .str (bs (msL m))) := by
 refine av F.mass_Text_ok ?_
 unfold F.mass_Text_c
 have m16 : (msC m).length = 16 := by simp [msC, ay]
 have k16 : List.take 16 (msC m) = msC m := by simp [msC, ay]
 simp [Ms.v, m16, k16, ac, List.filter_cons]
 refine ag (weights_Text h) (by simp [msC, ay]) ?_
 simp
end Go.Proofs.YtmjgehbpcchjpaaGreatDoor
