import Derived.Test.YtmjgehbpcchjpaaGreatDoorKA
import Derived.Test.YtmjgehbpcchjpaaGreatDoorHP
import Derived.Test.YtmjgehbpcchjpaaGreatDoorGC
import Derived.Test.YtmjgehbpcchjpaaGreatDoorProg
import Derived.KernelRfl
namespace Go.Proofs.YtmjgehbpcchjpaaGreatDoor.F
open Go Go.Proofs Go.Proofs.YtmjgehbpcchjpaaGreatDoor.E Go.Proofs.YtmjgehbpcchjpaaGreatDoor.Q
abbrev ref04_Parts : Nat := 56
def ref04_Parts_c : MFn := ⟨5,(.seq (r [o 1 (.box (.t 0)),o 2 (.mv (.c .nils))] [1]) (.seq (r [o 3 (.ld (some 16) (.t 1)),o 4 (.call 89 [(.t 3)]),o 2 (.mv (.t 4))] [2]) .ret)),[.t 2]⟩
theorem ref04_Parts_ok : cFn Tryz.prog (kps [[1],[2]]) [] 56 = some ref04_Parts_c := by kernel_rfl
abbrev ref04_Bind : Nat := 60
def ref04_Bind_c : MFn := ⟨40,(.seq (r [o 2 (.box (.t 0)),o 4 (.alloc zM)] [1,2,4]) (.seq (r [o 7 (.ld (some 16) (.t 2)),o 8 (.call 82 [(.t 7)]),z (.st 16 (.t 2) (.t 8))] [1,2,4]) (.seq (r [o 9 (.ld (some 16) (.t 2)),o 5 (.alloc zM),z (.st 16 (.t 5) (.t 9))] [1,2,4,5]) (.seq (r [o 10 (.fA 0 (.t 5)),z (.st 1 (.t 10) (.c .nils))] [1,2,4,5]) (.seq (r [o 11 (.ld (some 16) (.t 5)),o 12 (.call 82 [(.t 11)]),z (.st 16 (.t 5) (.t 12))] [1,2,4,5]) (.seq (.seq (r [o 6 (.mv (i 0))] [1,2,4,5,6]) (.block 0 (.loop (.seq (.seq (r [o 13 (.mv (.t 6)),o 14 (.fA 0 (.t 2)),o 15 (.ld none (.t 14)),o 16 (.lenS (.t 15)),o 17 (.bin .lss (.t 13) (.t 16)),o 18 (.mv (.t 17)),y 19 18 (.mv (.t 6)),y 20 18 (.mv (.t 1)),y 21 18 (.lenS (.t 20)),y 22 18 (.bin .lss (.t 19) (.t 21)),o 23 (.pick (.t 18) (.t 22) (.c (.bool false)))] [1,2,4,5,6,23]) (.cond (.t 23) .skip (.exit 0))) (.seq (.block 1 (r [o 26 (.ld (some 16) (.t 5)),o 27 (.mv (.t 1)),o 28 (.mv (.t 6)),o 29 (.ixA 16 (.t 27) (.t 28)),o 30 (.ld (some 16) (.t 29)),o 31 (.fA 0 (.t 2)),o 32 (.ld none (.t 31)),o 33 (.mv (.t 6)),o 34 (.ixA 6 (.t 32) (.t 33)),o 35 (.fA 3 (.t 34)),o 36 (.ld (some 3) (.t 35)),o 37 (.callF 23 [(.t 30),(.t 36)]),o 38 (.callF 21 [(.t 26),(.t 37)]),z (.st 16 (.t 5) (.t 38))] [1,2,4,5,6])) (r [o 24 (.mv (.t 6)),o 25 (.bin .add (.t 24) (i 1)),o 6 (.mv (.t 25))] [1,2,4,5,6])))))) (.seq (r [o 39 (.ld (some 16) (.t 5)),z (.st 16 (.t 4) (.t 39))] [4]) .ret))))))),[.cell 4 (some 16)]⟩
theorem ref04_Bind_ok : cFn Tryz.prog (kps [[1,2,4],[1,2,4],[1,2,4,5],[1,2,4,5],[1,2,4,5],[1,2,4,5,6],[1,2,4,5,6,23],[1,2,4,5,6],[1,2,4,5,6],[4]]) [] 60 = some ref04_Bind_c := by kernel_rfl
abbrev law04_MassBinds_1 : Nat := 58
def law04_MassBinds_1_c : MFn := ⟨33,(.seq (r [o 5 (.box (.t 0)),o 6 (.alloc zM)] [1,2,3,4,5,6]) (.seq (r [o 7 (.ld none (.t 1)),o 8 (.mv (.t 7)),y 9 8 (.ld none (.t 2)),y 10 8 (.ld none (.t 3)),y 11 8 (.lenS (.t 10)),y 12 8 (.bin .lss (.t 9) (.t 11)),o 13 (.pick (.t 8) (.t 12) (.c (.bool false))),o 14 (.mv (.t 13)),y 15 14 (.ld (some 3) (.t 5)),y 16 14 (.ld none (.t 3)),y 17 14 (.ld none (.t 2)),y 18 14 (.ixA 6 (.t 16) (.t 17)),y 19 14 (.fA 0 (.t 18)),y 20 14 (.ld (some 3) (.t 19)),y 21 14 (.callF 59 [(.t 15),(.t 20)]),o 22 (.pick (.t 14) (.t 21) (.c (.bool false))),z (.st 1 (.t 1) (.t 22))] [2,4,6]) (.seq (r [o 23 (.ld none (.t 2)),o 24 (.bin .add (.t 23) (i 1)),z (.st 1 (.t 2) (.t 24))] [2,4,6]) (.seq (r [o 25 (.ld none (.t 4)),o 26 (.ld none (.t 2)),o 27 (.bin .sub (.t 26) (i 1)),o 28 (.ld none (.t 4)),o 29 (.lenS (.t 28)),o 30 (.bin .rem (.t 27) (.t 29)),o 31 (.ixA 16 (.t 25) (.t 30)),o 32 (.ld (some 16) (.t 31)),z (.st 16 (.t 6) (.t 32))] [6]) .ret)))),[.cell 6 (some 16)]⟩
theorem law04_MassBinds_1_ok : cFn Tryz.prog (kps [[1,2,3,4,5,6],[2,4,6],[2,4,6],[6]]) [] 58 = some law04_MassBinds_1_c := by kernel_rfl
end Go.Proofs.YtmjgehbpcchjpaaGreatDoor.F

namespace Go.Proofs.YtmjgehbpcchjpaaGreatDoor
open Go Go.Proofs Go.Proofs.YtmjgehbpcchjpaaGreatDoor.E
set_option linter.unusedSimpArgs false
set_option linter.unusedVariables false
theorem ref04_Parts {m : Ms} {K : Nat} (hK : 1 ≤ K) (hm : m.Ok K) (hl : m.parts.length ≤ 1000) (hb : K ≤ 100000) (hc : ∀ p ∈ m.parts, cQ p.v ≤ 1000000) : CallD Tryz.prog F.ref04_Parts [m.v] (· = pl (aL m.parts)) := by
 refine aB F.ref04_Parts_ok ?_
 unfold F.ref04_Parts_c
 simp [ag, List.filter_cons, msC, am]
 refine ai (ref04_parts hK hm hl hb hc) (by simp [msC, am]) ?_
 simp
set_option maxHeartbeats 1000000 in
theorem ref04_Bind {m : Ms} {g : Tr → Ms} {all : List Ms} {K : Nat} (hK : 1 ≤ K) (hm : m.Ok K) (hl : m.parts.length ≤ 1000) (hb : K ≤ 1000) (hc : ∀ p ∈ m.parts, cQ p.v ≤ 1000000) (ha : all = (aL m.parts).map fun p => g p.v) (hR : BindR m g) :
 CallD Tryz.prog F.ref04_Bind [m.v, .dat (all.map msC)] (· = (aI (aZ m g (aL m.parts))).v) := by
 have p1 : m.parts.length * (K + 1) ≤ 1000 * 1001 := Nat.mul_le_mul hl (by omega)
 have okN := j5 (K := K) hK hm (K' := 40000000) (by omega) (by omega)
 refine aB F.ref04_Bind_ok ?_
 unfold F.ref04_Bind_c
 have n16 : ∀ y : Ms, (msC y).length = 16 := fun y => by simp [msC, am]
 have t16 : ∀ y : Ms, List.take 16 (msC y) = msC y := fun y => by simp [msC, am]
 have d16 : ∀ y : Ms, List.drop 16 (msC y) = [] := fun y => by simp [msC, am]
 have l15 : ∀ {a b c d e : Raw}, (am a b c d e).length = 15 := by simp [am]
 have t15 : ∀ {a b c d e : Raw}, List.take 15 (am a b c d e) = am a b c d e := by simp [am]
 have d15 : ∀ {a b c d e : Raw}, List.drop 15 (am a b c d e) = [] := by simp [am]
 have g0 : ∀ y : Ms, (msC y)[0]? = some (pl y.parts) := fun y => by simp [msC]
 have g2 : ∀ (y : Ms) (h : 0 < (msC y).length), (msC y)[0] = pl y.parts := fun y h => by simp [msC]
 have g1 : ∀ y : Ms, (msC y).tail = am y.rf y.lo y.f0 y.f1 y.f2 := fun y => by simp [msC]
 have rm : ∀ (m : Ms) (σ : Sto) (n : Nat), (msC m).flatMap (rch σ n) = [] := fun m σ n => gK σ n m
 have eA : aZ m g [] = ⟨[], (aI m).rf, (aI m).lo, (aI m).f0, (aI m).f1, (aI m).f2⟩ := by
  simp [aZ, cM, aI, Rat.add_zero]
 have rt : ∀ {a b c d e : Raw} (σ : Sto) (n : Nat), (am a b c d e).flatMap (rch σ n) = [] := fun σ n => by simp [am]
 have hL : (aI m).parts = aL m.parts := rfl
 simp [ag, List.filter_cons, Ms.v, n16, t16]
 refine ai (ref04_comes hK hm hl (by omega) hc) (by simp [cP, Ms.v]) ?_
 simp [ag, List.filter_cons, Ms.v, n16, t16, d16, g0, g1, rm, l15, t15, d15]
 have fr : ∀ {x : Raw}, x.Ok K → (ao x.q).Ok K := fun hx => bw (Raw.fits hx hK)
 have cm := ref04_comes (m := ⟨[], (aI m).rf, (aI m).lo, (aI m).f0, (aI m).f1, (aI m).f2⟩) hK ⟨by simp, fr hm.rf, fr hm.lo, fr hm.f0, fr hm.f1, fr hm.f2⟩ (by simp) (by omega) (by simp)
 refine ai cm (by simp [msC, am, Ms.v]) ?_
 have eE : aI ⟨[], (aI m).rf, (aI m).lo, (aI m).f0, (aI m).f1, (aI m).f2⟩ = aI (aZ m g []) := by rw [eA]
 rw [eE]
 have ll : (aL m.parts).length ≤ 1000 := Nat.le_trans (dT _) hl
 have hla : all.length = (aL m.parts).length := by rw [ha]; simp
 have hai : ∀ (i : Nat) (h : i < (aL m.parts).length) (h2 : i < all.length), all[i] = g (aL m.parts)[i].v := fun i h _ => by simp [ha]
 have hs := hR.s
 have hA := hR.a
 simp [ag, List.filter_cons, Ms.v, n16, t16, d16, g0, g1, rm, rt, rchs, E.deep, l15, t15, d15]
 clear hR ha eA cm
 generalize aL m.parts = L at *
 have fin : aZ m g (L.take L.length) = aZ m g L := by rw [List.take_length]
 refine aH (fun i : Nat => (((((Sl.empty.set 6 (.int .i64 i)).set 5 (.ptr 2 0 0)).set 4 (.ptr 1 0 0)).set 2 (.ptr 0 0 0)).set 1 (.dat (all.map msC)), [(2, ⟨.own, 16, [msC (aI (aZ m g (L.take i)))]⟩), (0, ⟨.own, 16, [msC (aI m)]⟩), (1, ⟨.own, 16, [az]⟩)])) (fun i => i ≤ L.length) (fun i => L.length - i) 0 (by omega) ?_ ?_
 ·refine aJ ?_ (by simp [msC, am, az]) (by repeat (first | exact ac | refine ah (by simp) ?_)) (by simp [msC, am, az])
  repeat (first | exact af | refine aj (by simp) ?_)
 rintro i hi
 by_cases h1 : i < L.length
 ·have h2 : i < all.length := by omega
  have h3 : (i : Int) < (all.length : Int) := by omega
  have tk : List.take 6 (aA L[i]) = aA L[i] := by simp
  have ec3 : List.take 3 (aA L[i]) = L[i].v.cells := by unfold aA; exact List.take_left' (by simp)
  have ec6 : List.take 3 (List.drop 3 (aA L[i])) = L[i].w.c := by unfold aA; rw [List.drop_left' (by simp)]; simp
  have ec7 : List.drop 3 (aA L[i]) = L[i].w.c := by unfold aA; exact List.drop_left' (by simp)
  have hg := hai i h1 h2
  have s1 := hs _ (List.getElem_mem h1)
  have a1 := hA i h1
  simp [h1, h2, h3, tk, ec3, ec6, ec7, hL, hg, g2, n16, t16, d16, rm, ag, List.filter_cons]
  refine ak s1 (by simp [cP, bq, bW, Ms.v]) ?_
  simp [n16, t16, d16, rm, Ms.v, ag, List.filter_cons]
  refine ak a1 (by simp [cP, Ms.v]) ?_
  simp [n16, t16, d16, rm, Ms.v, ag, List.filter_cons]
  rw [ap (by omega) (by omega)]
  refine ⟨i + 1, h1, by dsimp only; omega, ?_⟩
  refine aJ ?_ (by simp [msC, am, az]) (by repeat (first | exact ac | refine ah (by simp) ?_)) (by simp [msC, am, az])
  repeat (first | exact af | refine aj (by simp) ?_)
 ·have e : i = L.length := by omega
  subst e
  simp [hL, g2, n16, t16, d16, rm, hla, fin, az, cP, ag, List.filter_cons]
structure CB (oA oN oP oL oM q : Nat) (L : List Part) (l : List Ms) (m : Ms) (X : Ob) (i : Nat) (τ : Sto) : Prop where
 a : E.look τ oA = some ⟨.own, 1, [[.bool true]]⟩
 n : E.look τ oN = some ⟨.own, 1, [[.int .i64 i]]⟩
 p : E.look τ oP = some ⟨.own, 1, [[pl L]]⟩
 l : E.look τ oL = some ⟨.own, 1, [[.dat (l.map msC)]]⟩
 m : E.look τ oM = some ⟨.own, 16, [msC m]⟩
 q : E.look τ q = some X
set_option maxHeartbeats 1000000 in
theorem binds_1 {oA oN oP oL oM q n i : Nat} {L : List Part} {l : List Ms} {m y : Ms} {X : Ob} {τ : Sto} (hL : ∀ p ∈ L, p.v.Ok) (l1 : L.length ≤ 1000) (l0 : l ≠ []) (l2 : l.length ≤ 1000) (h : i < L.length) (hy : l[i % l.length]? = some y)
 (c : CB oA oN oP oL oM q L l m X i τ) (hs : bV τ) (hn : n ≤ fresh τ) (d1 : oA < n) (d2 : oN < n) (d3 : oP < n) (d4 : oL < n) (d5 : oM < n) (d6 : q < n) (e1 : oA ≠ oN) (e2 : oA ≠ oP) (e3 : oA ≠ oL) (e4 : oA ≠ oM) (e5 : oA ≠ q) (e6 : oN ≠ oP) (e7 : oN ≠ oL) (e8 : oN ≠ oM) (e9 : oN ≠ q) :
 ∃ τ', Turn F.law04_MassBinds_1 [.ptr oA 0 0, .ptr oN 0 0, .ptr oP 0 0, .ptr oL 0 0] n (CB oA oN oP oL oM q L l m X) i L[i].v y τ τ' := by
 generalize hf : fresh τ = f at *
 generalize hY : ag (ag τ f ⟨.own, 3, [L[i].v.cells]⟩) (f + 1) ⟨.own, 16, [az]⟩ = Y
 have hY0 : E.look Y f = some ⟨.own, 3, [L[i].v.cells]⟩ := by rw [← hY, ab, if_neg (by omega), ab, if_pos rfl]
 have hY1 : E.look Y (f + 1) = some ⟨.own, 16, [az]⟩ := by rw [← hY, ab, if_pos rfl]
 have hYo : ∀ o, o < f → E.look Y o = E.look τ o := fun o ho => by rw [← hY, ab, if_neg (by omega), ab, if_neg (by omega)]
 have hYf : fresh Y = f + 2 := by rw [← hY, bc, bc, hf]; omega
 have hYs : bV Y := by rw [← hY]; exact aE (aE hs (av fun y hy f => by generalize L[i].v = t at hy; cases t; simp [ct] at hy; rcases hy with rfl | rfl | rfl <;> simp [V.within])) (av (by simp [az, V.within]))
 have kY : ∀ o, (E.look τ o).isSome = true → (E.look Y o).isSome = true := fun o ho => by rw [← hY]; exact cC (cC ho)
 have yA : E.look Y oA = some ⟨.own, 1, [[.bool true]]⟩ := by rw [hYo _ (by omega)]; exact c.a
 have yN : E.look Y oN = some ⟨.own, 1, [[.int .i64 i]]⟩ := by rw [hYo _ (by omega)]; exact c.n
 have yP : E.look Y oP = some ⟨.own, 1, [[pl L]]⟩ := by rw [hYo _ (by omega)]; exact c.p
 have yL : E.look Y oL = some ⟨.own, 1, [[.dat (l.map msC)]]⟩ := by rw [hYo _ (by omega)]; exact c.l
 have n16 : (msC y).length = 16 := by simp [msC, am]
 have t16 : List.take 16 (msC y) = msC y := by simp [msC, am]
 have d16 : List.drop 16 (msC y) = [] := by simp [msC, am]
 generalize hZ : ag (ag (ag Y oA ⟨.own, 1, [[.bool true]]⟩) oN ⟨.own, 1, [[.int .i64 ((i : Int) + 1)]]⟩) (f + 1) ⟨.own, 16, [msC y]⟩ = Z
 have hZs : bV Z := by rw [← hZ]; exact aE (aE (aE hYs (av (by simp [V.within]))) (av (by simp [V.within]))) (av (bS _))
 have hZk : ∀ o, (E.look τ o).isSome = true → (E.look Z o).isSome = true := fun o ho => by rw [← hZ]; exact cC (cC (cC (kY o ho)))
 have hZo : ∀ o, o ≠ oA → o ≠ oN → o < f → E.look Z o = E.look τ o := fun o h1 h2 h3 => by
  rw [← hZ, ab, if_neg (by omega), ab, if_neg h2, ab, if_neg h1]; exact hYo o h3
 refine ⟨Z, ⟨?_, ⟨?_, ?_, by rw [hZo _ e2.symm e6.symm (by omega)]; exact c.p, by rw [hZo _ e3.symm e7.symm (by omega)]; exact c.l, by rw [hZo _ e4.symm e8.symm (by omega)]; exact c.m, by rw [hZo _ e5.symm e9.symm (by omega)]; exact c.q⟩, hZs, by rw [← hZ, bc, bc, bc, hYf]; omega, fun o h1 h2 => hZo o (by omega) (by omega) (by omega), hZk⟩⟩
 ·have al := law03_Alike (v := L[i].v) (hL _ (List.getElem_mem h))
  refine cF F.law04_MassBinds_1_ok ?_
  unfold F.law04_MassBinds_1_c
  simp (disch := omega) [-ab, hf, bc, Nat.max_eq_left, Nat.max_eq_right]
  have hYe := hY
  simp only [az] at hYe
  rw [hYe]
  clear hYe hY
  have ec3 : List.take 3 (aA L[i]) = L[i].v.cells := by unfold aA; exact List.take_left' (by simp)
  have h3 : (i : Int) < (L.length : Int) := by omega
  simp [yA, yN, yP, yL, hY0, aM, h, h3, ec3]
  have a1 : ¬ oN = oA := e1.symm
  have a2 : ¬ oL = oN := e7.symm
  have a3 : ¬ oL = oA := e3.symm
  have a4 : ¬ f + 1 = oA := by omega
  have a5 : ¬ f + 1 = oN := by omega
  have l3 : ¬ (l.length : Int) = 0 := by have := List.length_pos_iff.2 l0; omega
  refine ak al (by simp [ba]) ?_
  simp [yA, yN, yP, yL, aM, h, h3, e1, a1, a2, a3, l3]
  rw [ap (by omega) (by omega)]
  simp [yA, yN, yP, yL, aM, h, h3, e1, a1, a2, a3, l3]
  have hm : i % l.length < l.length := Nat.mod_lt _ (List.length_pos_iff.2 l0)
  have hm2 : ((i % l.length : Nat) : Int) < (l.length : Int) := by omega
  have tm : ((i : Int).tmod (l.length : Int)) = ((i % l.length : Nat) : Int) := (Int.ofNat_tmod i l.length).symm
  rw [ap (by omega) (by omega), tm]
  have hy2 : l[i % l.length] = y := by rw [List.getElem?_eq_getElem hm] at hy; exact Option.some.inj hy
  generalize i % l.length = r at *
  simp [l0, hm, hm2, hy2, yA, yN, yP, yL, hY1, az, aM, n16, t16, d16, e1, a1, a2, a3, a4, a5, hZ]
  have hZ1 : E.look Z (f + 1) = some ⟨.own, 16, [msC y]⟩ := by rw [← hZ, ab, if_pos rfl]
  refine bQ (r := .agg (msC y)) (l := [.agg (msC y)]) (σ1 := Z) (by simp) (by simp [hZ1, n16, t16, aM]) rfl (Has.refl _) (fun x hx => hZk x (aS x hx)) hZs ?_ ⟨rfl, rfl⟩
  rw [ej, List.all_eq_true]
  exact fun z hz => bS _ z hz _
 ·rw [← hZ, ab, if_neg (by omega), ab, if_neg e1, ab, if_pos rfl]
 ·rw [← hZ, ab, if_neg (by omega), ab, if_pos rfl]; rfl
end Go.Proofs.YtmjgehbpcchjpaaGreatDoor
