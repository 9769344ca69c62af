/- MassMonad, over data. -/
import Derived.Test.YtmjgehbpcchjpaaGreatDoorIB
import Derived.Test.YtmjgehbpcchjpaaGreatDoorHW
import Derived.Test.YtmjgehbpcchjpaaGreatDoorHQ
namespace Go.Proofs.YtmjgehbpcchjpaaGreatDoor.F
open Go Go.Proofs Go.Proofs.YtmjgehbpcchjpaaGreatDoor.E Go.Proofs.YtmjgehbpcchjpaaGreatDoor.Q
abbrev law04_MassMonad : Nat := 11
def law04_MassMonad_c : MFn := ⟨83,(.seq (r [o 3 (.box (.t 0)),o 4 (.box (.t 1)),o 5 (.box (.t 2)),o 6 (.mv (.c (.bool false)))] [3,4,5]) (.seq (.seq (r [o 10 (.ld none (.t 4)),o 11 (.lenS (.t 10)),o 12 (.bin .eql (.t 11) (i 0)),o 13 (.mv (.t 12)),n 14 13 (.ld none (.t 5)),n 15 13 (.lenS (.t 14)),n 16 13 (.bin .eql (.t 15) (i 0)),o 17 (.pick (.t 13) (.c (.bool true)) (.t 16)),o 18 (.mv (.t 17)),n 19 18 (.ld none (.t 4)),n 20 18 (.lenS (.t 19)),n 21 18 (.bin .gtr (.t 20) (i 4)),o 22 (.pick (.t 18) (.c (.bool true)) (.t 21)),o 23 (.mv (.t 22)),n 24 23 (.ld none (.t 5)),n 25 23 (.lenS (.t 24)),n 26 23 (.bin .gtr (.t 25) (i 4)),o 27 (.pick (.t 23) (.c (.bool true)) (.t 26)),o 28 (.mv (.t 27)),n 29 28 (.ld (some 16) (.t 3)),n 30 28 (.buildSl 16 1 zM [(0,(.t 29))]),n 31 28 (.call 14 [(.t 30)]),n 32 28 (.un .not (.t 31)),o 33 (.pick (.t 28) (.c (.bool true)) (.t 32)),o 34 (.mv (.t 33)),n 35 34 (.ld none (.t 4)),n 36 34 (.call 14 [(.t 35)]),n 37 34 (.un .not (.t 36)),o 38 (.pick (.t 34) (.c (.bool true)) (.t 37)),o 39 (.mv (.t 38)),n 40 39 (.ld none (.t 5)),n 41 39 (.call 14 [(.t 40)]),n 42 39 (.un .not (.t 41)),o 43 (.pick (.t 39) (.c (.bool true)) (.t 42)),o 44 (.mv (.t 43)),n 45 44 (.fA 0 (.t 3)),n 46 44 (.ld none (.t 45)),n 47 44 (.lenS (.t 46)),n 48 44 (.bin .gtr (.t 47) (i 12)),o 49 (.pick (.t 44) (.c (.bool true)) (.t 48))] [3,4,5,49]) (.cond (.t 49) (.seq (r [o 50 (.call 16 []),o 6 (.mv (.t 50))] [6]) .ret) .skip)) (.seq (r [o 51 (.mkF 61 [(.t 4)]),o 7 (.alloc [.nilf]),z (.st 1 (.t 7) (.t 51))] [3,4,5,7]) (.seq (r [o 52 (.mkF 63 [(.t 5)]),o 8 (.alloc [.nilf]),z (.st 1 (.t 8) (.t 52))] [3,4,7,8]) (.seq (r [o 53 (.ld none (.t 4)),o 54 (.lenS (.t 53)),o 55 (.call 64 [(.t 54)]),o 9 (.alloc zV),z (.st 3 (.t 9) (.t 55))] [3,7,8,9]) (.seq (.seq (r [o 56 (.ld (some 3) (.t 9)),o 57 (.rd2 (.fn 48) []),o 58 (.rd2 (.fn 46) [(.t 56),(.t 57)]),o 59 (.ld none (.t 7)),o 60 (.rd2 (.fn 57) [(.t 58),(.t 59)]),o 61 (.ld none (.t 7)),o 62 (.ld (some 3) (.t 9)),o 63 (.rd2 .dyn [(.t 61),(.t 62)]),o 64 (.rd2 (.fn 31) [(.t 60),(.t 63)]),o 65 (.un .not (.t 64))] [3,7,8,65]) (.cond (.t 65) (.seq (r [o 6 (.mv (.c (.bool false)))] [6]) .ret) .skip)) (.seq (.seq (r [o 66 (.ld (some 16) (.t 3)),o 67 (.callF 57 [(.t 66),(.c (.clo 65 []))]),o 68 (.ld (some 16) (.t 3)),o 69 (.callF 31 [(.t 67),(.t 68)]),o 70 (.un .not (.t 69))] [3,7,8,70]) (.cond (.t 70) (.seq (r [o 6 (.mv (.c (.bool false)))] [6]) .ret) .skip)) (.seq (r [o 71 (.ld (some 16) (.t 3)),o 72 (.ld none (.t 7)),o 73 (.rd2 (.fn 57) [(.t 71),(.t 72)]),o 74 (.ld none (.t 8)),o 75 (.rd2 (.fn 57) [(.t 73),(.t 74)]),o 76 (.ld (some 16) (.t 3)),o 77 (.mkF 66 [(.t 7),(.t 8)]),o 78 (.rd2 (.fn 57) [(.t 76),(.t 77)]),o 79 (.rd2 (.fn 31) [(.t 75),(.t 78)]),o 80 (.mv (.t 79)),y 81 80 (.rd2 (.fn 16) []),o 82 (.pick (.t 80) (.t 81) (.c (.bool false))),o 6 (.mv (.t 82))] [6]) .ret)))))))),[.t 6]⟩
theorem law04_MassMonad_ok : cFn Tryz.prog (kps [[3,4,5],[3,4,5,49],[6],[3,4,5,7],[3,4,7,8],[3,7,8,9],[3,7,8,65],[6],[3,7,8,70],[6],[6]]) [1006, 1010] 11 = some law04_MassMonad_c := by kernel_rfl
end Go.Proofs.YtmjgehbpcchjpaaGreatDoor.F

namespace Go.Proofs.YtmjgehbpcchjpaaGreatDoor
open Go Go.Proofs Go.Proofs.YtmjgehbpcchjpaaGreatDoor.E
set_option linter.unusedSimpArgs false
set_option linter.unusedVariables false
theorem read_masses {l : List (List V)} (h : ∃ n, Typed Tryz.prog n T.masses [.dat l]) : ∃ ms : List Ms, l = ms.map msC ∧ ms.length ≤ maxLen ∧ ∀ m ∈ ms, m.Ok maxLen ∧ m.parts.length ≤ maxLen := by
 obtain ⟨n, h⟩ := h
 obtain ⟨l', e, hl, m, _, h⟩ := E.typed_sl (e := T.mass) (by kernel_rfl) h
 injection e with e _; injection e with e; subst e
 obtain ⟨ps, rfl, hp⟩ := E.list_of (f := msC) (p := fun m => m.Ok maxLen ∧ m.parts.length ≤ maxLen) fun x hx => by
  obtain ⟨m, e, h1, h2⟩ := read_mass (h x hx)
  exact ⟨m, e, h1, h2⟩
 exact ⟨ps, rfl, by simpa using hl, hp⟩
def valsM (l : List Ms) : List Tr := (l.map fun m => m.parts.map Part.v).flatten
theorem valsM_len : ∀ {l : List Ms} {b : Nat}, (∀ m ∈ l, m.parts.length ≤ b) → (valsM l).length ≤ l.length * b
 | [], _, _ => by simp [valsM]
 | a :: l, b, h => by
   have h1 := h a (by simp)
   have h2 := valsM_len (l := l) (b := b) fun x hx => h x (by simp [hx])
   unfold valsM at h2 ⊢
   rw [List.map_cons, List.flatten_cons, List.length_append, List.length_map, List.length_cons, Nat.succ_mul]; omega
theorem Sml.toBd {m : Ms} {K n W : Nat} {S : List Tr} (h : Sml m K n) (hK : 1 ≤ K) (hW : 1 + n * (K + 1) ≤ W) (hW2 : K ≤ W) (hv : ∀ p ∈ m.parts, p.v ∈ S) : Bd m K n W S := by
 have f : ∀ {x : Raw}, x.Ok K → Fits x.q W := fun hx => (Raw.fits hx hK).mono hW2
 refine ⟨h.ok, h.len, h.cnt, hv, fun v => ?_, f h.ok.rf, f h.ok.lo, f h.ok.f0, f h.ok.f1, f h.ok.f2⟩
 have l1 := Nat.mul_le_mul_right (K + 1) h.len
 exact (wsum_fits (k := K) hK (fun x hx => Raw.fits (h.ok.parts x hx).2 hK) v).mono (by omega)
theorem Sml.bd {m : Ms} {l : List Ms} (h : Sml m 6 40) (hm : m ∈ l) : Bd m 6 40 300 (valsM l) :=
 h.toBd (by omega) (by omega) (by omega) fun p hp => List.mem_flatten.2 ⟨_, List.mem_map.2 ⟨m, hm, rfl⟩, List.mem_map.2 ⟨p, hp, rfl⟩⟩
theorem Bd.same {x y : Ms} {Kx nx Wx Ky ny Wy : Nat} {S R : List Tr} (h : Bd x Kx nx Wx S) (k : Bd y Ky ny Wy R) (K : Nat) (hK : 1 ≤ K) (hx : Kx ≤ K) (hy : Ky ≤ K) (hb : K ≤ 1000000) (hnx : nx ≤ 1000) (hny : ny ≤ 1000) (he : normM x = normM y) : CallD Tryz.prog F.mass_Same [.agg (msC x), .agg (msC y)] (· = .bool true) :=
 mass_Same hK hb (h.ok.mono hx) (k.ok.mono hy) (Nat.le_trans h.len hnx) (Nat.le_trans k.len hny) he
theorem one_bd {v : Tr} (hv : v.Ok) (hc : cntT v ≤ 1000000) {S : List Tr} (hS : v ∈ S) : Bd (normM (onM 0 0 v (rawOf 1))) 4 1 20 S := by
 have e : onM 0 0 v (rawOf 1) = ⟨[⟨v, rawOf 1⟩], rawOf 0, rawOf 0, rawOf 0, rawOf 0, rawOf 0⟩ := if_pos rfl
 have s : Sml (onM 0 0 v (rawOf 1)) 1 1 := ⟨onM_ok (by omega) hv (rawOf_ok fits_one), onM_len _ _ _ _, by rw [e]; simpa using hc⟩
 refine (s.norm (by omega)).toBd (by omega) (by omega) (by omega) fun p hp => ?_
 obtain ⟨q, hq, e2⟩ := normP_vals hp
 rw [e] at hq
 simp at hq
 subst hq
 rw [← e2]; exact hS
theorem Bd.mono {m : Ms} {K n W K' n' W' : Nat} {S : List Tr} (h : Bd m K n W S) (h1 : K ≤ K') (h2 : n ≤ n') (h3 : W ≤ W') : Bd m K' n' W' S :=
 ⟨h.ok.mono h1, Nat.le_trans h.len h2, h.cnt, h.vals, fun v => (h.w v).mono h3, h.rf.mono h3, h.lo.mono h3, h.f0.mono h3, h.f1.mono h3, h.f2.mono h3⟩
theorem law04_number {n : Int} : CallD Tryz.prog F.law04_number [.int .i64 n] (· = .agg (Tr.mk 2 n []).cells) := by
 refine callD_by F.law04_number_ok ?_
 unfold F.law04_number_c
 simp [setOb, List.filter_cons, cells_mk]
theorem rdK_fnB {P : Program} {S : Sl} {σ : Sto} {f : Nat} {us ds : List V} {rest : List MOper} {d : Option Nat} {Q : Sl → Sto → Prop} {r : V} {l : List Nat} (hc : CallD P f ds (· = r)) (hd : toPs σ us = some ds) (hl : rchPs σ us = l) (h : Nxt P rest d S Q r (if r.scalar then σ else frz σ l)) : RdK P (.fn f) us σ rest d S Q :=
 rdK_fn hc hd (by unfold behindP; rw [hl]; exact h)
theorem rdK_dynB {P : Program} {S : Sl} {σ : Sto} {f : Nat} {cap us ds : List V} {rest : List MOper} {d : Option Nat} {Q : Sl → Sto → Prop} {r : V} {l : List Nat} (hc : CallD P f ds (· = r)) (hd : toPs σ (us ++ cap) = some ds) (hl : rchPs σ (us ++ cap) = l) (h : Nxt P rest d S Q r (if r.scalar then σ else frz σ l)) : RdK P .dyn (.clo f cap :: us) σ rest d S Q :=
 rdK_dyn hc hd (by unfold behindP; rw [hl]; exact h)
theorem toP_cap {σ : Sto} {o f n es : Nat} {s : St} {L : List (List V)} (h : getOb σ o = some ⟨s, es, [[.dat L]]⟩) : toP σ (n + 3) (.clo f [.ptr o 0 0]) = some (.clo f [.elt [.dat L]]) := toP_clo (mapO1 (toP_ptr h rfl (by simp) (mapO1 rfl)))
theorem rchP_cap {σ : Sto} {o f n es : Nat} {s : St} {L : List (List V)} (h : getOb σ o = some ⟨s, es, [[.dat L]]⟩) : rchP σ (n + 3) (.clo f [.ptr o 0 0]) = [o] := rchP_clo (by
 rw [List.flatMap_cons, List.flatMap_nil, rchP_ptr h rfl rfl]
 rfl)
theorem toP_cap2 {σ : Sto} {o1 o2 o3 o4 f g h n e1 e2 e3 e4 : Nat} {s1 s2 s3 s4 : St} {L K : List (List V)} (h1 : getOb σ o1 = some ⟨s1, e1, [[.dat L]]⟩) (h2 : getOb σ o2 = some ⟨s2, e2, [[.dat K]]⟩) (h3 : getOb σ o3 = some ⟨s3, e3, [[.clo f [.ptr o1 0 0]]]⟩) (h4 : getOb σ o4 = some ⟨s4, e4, [[.clo g [.ptr o2 0 0]]]⟩) :
 toP σ (n + 5) (.clo h [.ptr o3 0 0, .ptr o4 0 0]) = some (.clo h [.elt [.clo f [.elt [.dat L]]], .elt [.clo g [.elt [.dat K]]]]) := by
 have a1 : toP σ (n + 4) (.ptr o3 0 0) = some (.elt [.clo f [.elt [.dat L]]]) := toP_ptr h3 rfl (by simp) (mapO1 (toP_cap h1))
 have a2 : toP σ (n + 4) (.ptr o4 0 0) = some (.elt [.clo g [.elt [.dat K]]]) := toP_ptr h4 rfl (by simp) (mapO1 (toP_cap h2))
 exact toP_clo (by simp only [mapO, a1, a2])
theorem rchP_ptrG {σ : Sto} {o n : Nat} {x : Ob} {r : List V} {t : List Nat} (h : getOb σ o = some x) (hr : x.cells[0]? = some r) (hm : r.flatMap (rchP σ n) = t) : rchP σ (n + 1) (.ptr o 0 0) = o :: t := by
 show (match getOb σ o with | some x => (match x.cells[0]? with | some r => o :: (r.drop 0).flatMap (rchP σ n) | none => []) | none => []) = _
 rw [h]
 simp only [hr, List.drop_zero, hm]
theorem rchP_cap2 {σ : Sto} {o1 o2 o3 o4 f g h n e1 e2 e3 e4 : Nat} {s1 s2 s3 s4 : St} {L K : List (List V)} (h1 : getOb σ o1 = some ⟨s1, e1, [[.dat L]]⟩) (h2 : getOb σ o2 = some ⟨s2, e2, [[.dat K]]⟩) (h3 : getOb σ o3 = some ⟨s3, e3, [[.clo f [.ptr o1 0 0]]]⟩) (h4 : getOb σ o4 = some ⟨s4, e4, [[.clo g [.ptr o2 0 0]]]⟩) :
 rchP σ (n + 5) (.clo h [.ptr o3 0 0, .ptr o4 0 0]) = [o3, o1, o4, o2] := by
 have a1 : rchP σ (n + 4) (.ptr o3 0 0) = [o3, o1] := rchP_ptrG h3 rfl (by rw [List.flatMap_cons, List.flatMap_nil, rchP_cap h1]; rfl)
 have a2 : rchP σ (n + 4) (.ptr o4 0 0) = [o4, o2] := rchP_ptrG h4 rfl (by rw [List.flatMap_cons, List.flatMap_nil, rchP_cap h2]; rfl)
 exact rchP_clo (by rw [List.flatMap_cons, List.flatMap_cons, List.flatMap_nil, a1, a2]; rfl)
theorem toP_rawc (σ : Sto) (n : Nat) (x : Raw) : mapO (toP σ (n + 1)) x.c = some x.c := by simp [Raw.c, toP, mapO]
theorem rchP_rawc (σ : Sto) (n : Nat) (x : Raw) : x.c.flatMap (rchP σ (n + 1)) = [] := by simp [Raw.c, rchP]
theorem Bd.vok {m : Ms} {K n W : Nat} {S : List Tr} (h : Bd m K n W S) : ∀ p ∈ normP m.parts, p.v.Ok ∧ cntT p.v ≤ 1000000 := fun p hp => by
 obtain ⟨q, hq, e⟩ := normP_vals hp
 rw [← e]; exact ⟨(h.ok.parts q hq).1, h.cnt q hq⟩
set_option maxHeartbeats 16000000 in
theorem massMonad_law {l0 : List V} {l1 l2 : List (List V)} (h0 : ∃ n, Typed Tryz.prog n T.mass l0) (h1 : ∃ n, Typed Tryz.prog n T.masses [.dat l1]) (h2 : ∃ n, Typed Tryz.prog n T.masses [.dat l2]) : CallD Tryz.prog F.law04_MassMonad [.agg l0, .dat l1, .dat l2] (· = .bool true) := by
 obtain ⟨_, h0⟩ := h0
 obtain ⟨m, rfl, hm, lm⟩ := read_mass h0
 obtain ⟨l, rfl, ll, hl⟩ := read_masses h1
 obtain ⟨k, rfl, lk, hk⟩ := read_masses h2
 clear h0 h1 h2
 refine callD_by F.law04_MassMonad_ok ?_
 unfold F.law04_MassMonad_c
 have e16 : ∀ m : Ms, List.take 16 (msC m) = msC m := fun m => by simp [msC, tailC]
 have l16 : ∀ m : Ms, (msC m).length = 16 := fun m => by simp [msC, tailC]
 have d16 : ∀ m : Ms, List.drop 16 (msC m) = [] := fun m => by simp [msC, tailC]
 have rm : ∀ (m : Ms) (σ : Sto) (n : Nat), (msC m).flatMap (rch σ n) = [] := fun m => rch_msC
 by_cases c1 : l = []
 ·subst c1
  simp [setOb, List.filter_cons, e16, l16]
  refine callK_of law04_awake (by simp) ?_
  simp
 by_cases c2 : k = []
 ·subst c2
  simp [c1, setOb, List.filter_cons, e16, l16]
  refine callK_of law04_awake (by simp) ?_
  simp
 by_cases c3 : (4 : Int) < (l.length : Int)
 ·simp [c1, c2, c3, setOb, List.filter_cons, e16, l16]
  refine callK_of law04_awake (by simp) ?_
  simp
 by_cases c4 : (4 : Int) < (k.length : Int)
 ·simp [c1, c2, c3, c4, setOb, List.filter_cons, e16, l16]
  refine callK_of law04_awake (by simp) ?_
  simp
 simp [c1, c2, c3, c4, setOb, List.filter_cons, e16, l16]
 have few1 := law04_Few (l := [m]) (by simp) (by simp; exact ⟨hm, lm⟩)
 simp at few1
 refine callK_of few1 (by
  simp
  rw [toD_refM (k := 11) (es := 16) (st := .own) (l := [msC m]) (by simp [getOb, E.look]) (by simp) (by simp) (by simp; exact toD_msC _ _ _)]) ?_
 cases c5 : fewM m with
 | false =>
   simp [setOb, List.filter_cons]
   refine callK_of law04_awake (by simp) ?_
   simp
 | true =>
 simp [setOb, List.filter_cons]
 refine callK_of (law04_Few (l := l) (by omega) hl) (by simp) ?_
 cases c6 : l.all fewM with
 | false =>
   simp [setOb, List.filter_cons]
   refine callK_of law04_awake (by simp) ?_
   simp
 | true =>
 simp [setOb, List.filter_cons]
 refine callK_of (law04_Few (l := k) (by omega) hk) (by simp) ?_
 cases c7 : k.all fewM with
 | false =>
   simp [setOb, List.filter_cons]
   refine callK_of law04_awake (by simp) ?_
   simp
 | true =>
 have hd : ∀ (m : Ms) (h : 0 < (msC m).length), (msC m)[0]'h = pl m.parts := fun m _ => rfl
 have hl0 : ∀ m : Ms, 0 < (msC m).length := fun m => by rw [l16]; omega
 by_cases c8 : (12 : Int) < (m.parts.length : Int)
 ·simp [c8, hd, hl0, setOb, List.filter_cons]
  refine callK_of law04_awake (by simp) ?_
  simp
 simp [c8, hd, hl0, setOb, List.filter_cons]
 refine callK_of (law04_number (n := l.length)) (by simp) ?_
 have wl : IntKind.i64.wrap (l.length : Int) = l.length := wrap64 (by omega) (by omega)
 simp [setOb, List.filter_cons, e16, l16, d16]
 have sm := few_sml hm c5
 have ml : m.parts.length ≤ 12 := by omega
 have fl : ∀ x ∈ l, Bd x 6 40 300 (valsM l) := fun x hx => (few_sml (hl x hx).1 (List.all_eq_true.1 c6 x hx)).bd hx
 have fk : ∀ x ∈ k, Bd x 6 40 300 (valsM k) := fun x hx => (few_sml (hk x hx).1 (List.all_eq_true.1 c7 x hx)).bd hx
 have gl : ∀ v, Bd (nxM l v) 6 40 300 (valsM l) := fun v => fl _ (nxM_mem c1 v)
 have gk : ∀ v, Bd (nxM k v) 6 40 300 (valsM k) := fun v => fk _ (nxM_mem c2 v)
 have vl : (valsM l).length ≤ 160 := Nat.le_trans (valsM_len (b := 40) fun x hx => (fl x hx).len) (by omega)
 have vk : (valsM k).length ≤ 160 := Nat.le_trans (valsM_len (b := 40) fun x hx => (fk x hx).len) (by omega)
 have el : Elts [V.elt [.dat (l.map msC)]] := fun y hy => by simp at hy; exact ⟨_, hy⟩
 have ek : Elts [V.elt [.dat (k.map msC)]] := fun y hy => by simp at hy; exact ⟨_, hy⟩
 have cl : ∀ v : Tr, v.Ok → CallD Tryz.prog F.law04_MassMonad_1 [.agg v.cells, .elt [.dat (l.map msC)]] (· = (nxM l v).v) := fun v hv => monad_1 c1 (by omega) hv
 have ck : ∀ v : Tr, v.Ok → CallD Tryz.prog F.law04_MassMonad_2 [.agg v.cells, .elt [.dat (k.map msC)]] (· = (nxM k v).v) := fun v hv => monad_2 c2 (by omega) hv
 have bm : Bd m 6 12 85 (valsM [m]) := (Sml.mk sm.ok ml sm.cnt).toBd (by omega) (by omega) (by omega) fun p hp => List.mem_flatten.2 ⟨_, List.mem_map.2 ⟨m, by simp, rfl⟩, List.mem_map.2 ⟨p, hp, rfl⟩⟩
 have nm12 : (normP m.parts).length ≤ 12 := Nat.le_trans (normP_len _) ml
 have okN : (Tr.mk 2 (l.length : Int) []).Ok := Tr.Ok.mk (by omega) (by omega) (by simp) (by simp)
 have cnN : cntT (Tr.mk 2 (l.length : Int) []) ≤ 1000000 := by simp [cntT, cntL]
 generalize hN : Tr.mk 2 (l.length : Int) [] = vN at *
 have b1 := one_bd okN cnN (S := [vN]) (by simp)
 have L1 := bind_bd (N := 1) b1 (Nat.le_trans (normP_len _) b1.len) (fun v _ => gl v) el (fun p hp => cl p.v (b1.vok p hp).1) (by omega) (by omega) (by omega) (by omega) (by omega) (by omega) (by omega) (by omega) (by omega) (by omega) (by omega)
 have LA := bind_bd (N := 12) bm nm12 (fun v _ => gl v) el (fun p hp => cl p.v (bm.vok p hp).1) (by omega) (by omega) (by omega) (by omega) (by omega) (by omega) (by omega) (by omega) (by omega) (by omega) (by omega)
 have bA := LA.2.mono (Nat.le_refl _) vl (Nat.le_refl _)
 have LB := bind_bd (N := 160) bA (Nat.le_trans LA.2.norm_len vl) (fun v _ => gk v) ek (fun p hp => ck p.v (bA.vok p hp).1) (by omega) (by omega) (by omega) (by omega) (by omega) (by omega) (by omega) (by omega) (by omega) (by omega) (by omega)
 have LC := fun v => bind_bd (N := 40) (gl v) (Nat.le_trans (normP_len _) (gl v).len) (fun u _ => gk u) ek (fun p hp => ck p.v ((gl v).vok p hp).1) (by omega) (by omega) (by omega) (by omega) (by omega) (by omega) (by omega) (by omega) (by omega) (by omega) (by omega)
 have LD := bind_bd (N := 12) (k := F.law04_MassMonad_4) (cp := [.elt [.clo F.law04_MassMonad_1 [.elt [.dat (l.map msC)]]], .elt [.clo F.law04_MassMonad_2 [.elt [.dat (k.map msC)]]]]) bm nm12 (fun v _ => (LC v).2.mono (Nat.le_refl _) vk (Nat.le_refl _)) (fun y hy => by simp at hy; rcases hy with h | h <;> exact ⟨_, h⟩) (fun p hp => monad_4 el ek (cl p.v (bm.vok p hp).1) (LC p.v).1) (by omega) (by omega) (by omega) (by omega) (by omega) (by omega) (by omega) (by omega) (by omega) (by omega) (by omega)
 have vm : ∀ v ∈ valsM [m], v.Ok ∧ cntT v ≤ 1000000 := fun v hv => by
  simp [valsM] at hv
  obtain ⟨p, hp, rfl⟩ := hv
  exact ⟨(sm.ok.parts p hp).1, sm.cnt p hp⟩
 have LE := bind_bd (N := 12) (g := fun v => normM (onM 0 0 v (rawOf 1))) (k := F.law04_MassMonad_3) (cp := []) bm nm12 (fun v hv => one_bd (vm v hv).1 (vm v hv).2 hv) (fun y hy => by simp at hy) (fun p hp => monad_3 (bm.vok p hp).1 (bm.vok p hp).2) (by omega) (by omega) (by omega) (by omega) (by omega) (by omega) (by omega) (by omega) (by omega) (by omega) (by omega)
 refine rdK_fnB (l := []) ratio_One rfl rfl ?_
 simp [ratV, raw_v, V.scalar, frz]
 refine rdK_fnB (l := []) (law04_oneB (K := 1) (by omega) (by omega) okN cnN (rawOf_ok fits_one)) (toPs2 (toP_agg (toP_cells _ _ _)) (toP_agg (toP_rawc _ _ _))) (rchPs2 (r := []) (s := []) (rchP_agg (rchP_cells _ _ _)) (rchP_agg (rchP_rawc _ _ _))) ?_
 simp [V.scalar, frz]
 refine rdK_fnB (l := [1]) L1.1 (toPs2 (toP_agg (toP_msV _ _ _)) (toP_cap rfl)) (rchPs2 (r := []) (s := [1]) (rchP_agg (rchP_msV _ _ _)) (rchP_cap rfl)) ?_
 simp [V.scalar, frz]
 refine rdK_dynB (l := [1]) (cl vN okN) (toPs2 (toP_agg (toP_cells _ _ _)) (toP_ptr rfl rfl (by simp) (mapO1 rfl))) (rchPs2 (r := []) (s := [1]) (rchP_agg (rchP_cells _ _ _)) (rchP_ptr rfl rfl rfl)) ?_
 simp [V.scalar, frz]
 refine rdK_fnB (l := []) (L1.2.same (gl vN) 400 (by omega) (by omega) (by omega) (by omega) (by omega) (by omega) (bind_left vN (nxM l))) (toPs2 (toP_agg (toP_msV _ _ _)) (toP_agg (toP_msV _ _ _))) (rchPs2 (r := []) (s := []) (rchP_agg (rchP_msV _ _ _)) (rchP_agg (rchP_msV _ _ _))) ?_
 simp [V.scalar, frz, setOb, List.filter_cons, e16, l16, d16]
 refine callFK_of LE.1 (by simp [toD_msC]; rfl) ?_
 have rc : ∀ (σ : Sto) (f : Nat), rch σ 12 (.clo f []) = [] := fun _ _ => rfl
 simp [rc, setOb, List.filter_cons, e16, l16, d16, rm]
 refine callFK_of (LE.2.same bm 1400 (by omega) (by omega) (by omega) (by omega) (Nat.le_trans (valsM_len (b := 12) (by simpa using ml)) (by simp)) (by omega) (bind_right m)) (by simp [toD_msC]) ?_
 simp [setOb, List.filter_cons, e16, l16, d16, rm]
 refine rdK_fnB (l := [1]) LA.1 (toPs2 (toP_agg (toP_msV _ _ _)) (toP_cap rfl)) (rchPs2 (r := []) (s := [1]) (rchP_agg (rchP_msV _ _ _)) (rchP_cap rfl)) ?_
 simp [V.scalar, frz]
 refine rdK_fnB (l := [2]) LB.1 (toPs2 (toP_agg (toP_msV _ _ _)) (toP_cap rfl)) (rchPs2 (r := []) (s := [2]) (rchP_agg (rchP_msV _ _ _)) (rchP_cap rfl)) ?_
 simp [V.scalar, frz, e16, l16]
 refine rdK_fnB (l := [4, 1, 5, 2]) LD.1 (toPs2 (toP_agg (toP_msV _ _ _)) (toP_cap2 (o1 := 1) (o2 := 2) rfl rfl rfl rfl)) (rchPs2 (r := []) (s := [4, 1, 5, 2]) (rchP_agg (rchP_msV _ _ _)) (rchP_cap2 (o1 := 1) (o2 := 2) rfl rfl rfl rfl)) ?_
 simp [V.scalar, frz]
 refine rdK_fnB (l := []) (LB.2.same LD.2 1000000 (by omega) (by omega) (by omega) (by omega) (by omega) (by omega) (bind_assoc m (nxM l) (nxM k))) (toPs2 (toP_agg (toP_msV _ _ _)) (toP_agg (toP_msV _ _ _))) (rchPs2 (r := []) (s := []) (rchP_agg (rchP_msV _ _ _)) (rchP_agg (rchP_msV _ _ _))) ?_
 simp [V.scalar]
 refine rdK_fnB (l := []) law04_awake rfl rfl ?_
 simp [V.scalar]
end Go.Proofs.YtmjgehbpcchjpaaGreatDoor
