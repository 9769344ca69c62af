import Derived.Test.YtmjgehbpcchjpaaGreatDoorHN
import Derived.Test.YtmjgehbpcchjpaaGreatDoorGL
namespace Go.Proofs.YtmjgehbpcchjpaaGreatDoor.F
open Go Go.Proofs Go.Proofs.YtmjgehbpcchjpaaGreatDoor.E Go.Proofs.YtmjgehbpcchjpaaGreatDoor.Q
abbrev ref04_None : Nat := 49
def ref04_None_c : MFn := ⟨10,(.seq (r [o 0 (.alloc zM)] [0]) (.seq (r [o 2 (.call 113 []),o 1 (.alloc zR),z (.st 3 (.t 1) (.t 2))] [0,1]) (.seq (r [o 3 (.ld (some 3) (.t 1)),o 4 (.callF 113 []),o 5 (.callF 113 []),o 6 (.callF 113 []),o 7 (.callF 113 []),o 8 (.build [.bool false,.nils,.nils,.bool false,.nils,.nils,.bool false,.nils,.nils] [(0,3,(.t 5)),(3,3,(.t 6)),(6,3,(.t 7))]),o 9 (.build zM [(1,3,(.t 3)),(4,3,(.t 4)),(7,9,(.t 8))]),z (.st 16 (.t 0) (.t 9))] [0]) .ret))),[.cell 0 (some 16)]⟩
theorem ref04_None_ok : cFn Tryz.prog (kps [[0],[0,1],[0]]) [] 49 = some ref04_None_c := by kernel_rfl
abbrev ref04_copied : Nat := 159
def ref04_copied_c : MFn := ⟨29,(.seq (r [o 1 (.box (.t 0)),o 2 (.alloc zV)] [1,2]) (.seq (r [o 5 (.fA 0 (.t 1)),o 6 (.ld none (.t 5)),o 7 (.fA 1 (.t 1)),o 8 (.ld none (.t 7)),o 9 (.build zV [(0,1,(.t 6)),(1,1,(.t 8))]),o 3 (.alloc zV),z (.st 3 (.t 3) (.t 9))] [1,2,3]) (.seq (.seq (r [o 4 (.mv (i 0))] [1,2,3,4]) (.block 0 (.loop (.seq (.seq (r [o 10 (.mv (.t 4)),o 11 (.fA 2 (.t 1)),o 12 (.ld none (.t 11)),o 13 (.lenS (.t 12)),o 14 (.bin .lss (.t 10) (.t 13))] [1,2,3,4,14]) (.cond (.t 14) .skip (.exit 0))) (.seq (.block 1 (r [o 17 (.fA 2 (.t 3)),o 18 (.ld none (.t 17)),o 19 (.fA 2 (.t 1)),o 20 (.ld none (.t 19)),o 21 (.mv (.t 4)),o 22 (.ixA 3 (.t 20) (.t 21)),o 23 (.ld (some 3) (.t 22)),o 24 (.callF 159 [(.t 23)]),o 25 (.buildSl 3 1 zV [(0,(.t 24))]),o 26 (.app 3 40 (.t 18) (.t 25)),o 27 (.fA 2 (.t 3)),z (.st 1 (.t 27) (.t 26))] [1,2,3,4])) (r [o 15 (.mv (.t 4)),o 16 (.bin .add (.t 15) (i 1)),o 4 (.mv (.t 16))] [1,2,3,4])))))) (.seq (r [o 28 (.ld (some 3) (.t 3)),z (.st 3 (.t 2) (.t 28))] [2]) .ret)))),[.cell 2 (some 3)]⟩
theorem ref04_copied_ok : cFn Tryz.prog (kps [[1,2],[1,2,3],[1,2,3,4],[1,2,3,4,14],[1,2,3,4],[1,2,3,4],[2]]) [] 159 = some ref04_copied_c := by kernel_rfl
abbrev ref04_whole : Nat := 115
def ref04_whole_c : MFn := ⟨26,(.seq (r [o 2 (.mv (.c .nils))] [0]) (.seq (r [o 3 (.mv (.c .nils))] [0,3]) (.seq (.seq (r [o 4 (.mv (i 0))] [0,3,4]) (.block 0 (.loop (.seq (.seq (r [o 5 (.mv (.t 4)),o 6 (.mv (.t 0)),o 7 (.lenS (.t 6)),o 8 (.bin .lss (.t 5) (.t 7))] [0,3,4,8]) (.cond (.t 8) .skip (.exit 0))) (.seq (.block 1 (.seq (r [o 11 (.mv (.t 0)),o 12 (.mv (.t 4)),o 13 (.ixA 6 (.t 11) (.t 12)),o 14 (.fA 3 (.t 13)),o 15 (.ld (some 3) (.t 14)),o 16 (.call 88 [(.t 15)]),o 17 (.bin .neq (.t 16) (i 0))] [0,3,4,17]) (.cond (.t 17) (r [o 18 (.mv (.t 3)),o 19 (.mv (.t 0)),o 20 (.mv (.t 4)),o 21 (.ixA 6 (.t 19) (.t 20)),o 22 (.ld (some 6) (.t 21)),o 23 (.buildSl 6 1 zP [(0,(.t 22))]),o 24 (.app 6 96 (.t 18) (.t 23)),o 3 (.mv (.t 24))] [0,3,4]) .skip))) (r [o 9 (.mv (.t 4)),o 10 (.bin .add (.t 9) (i 1)),o 4 (.mv (.t 10))] [0,3,4])))))) (.seq (r [o 25 (.mv (.t 3)),o 2 (.mv (.t 25))] [2]) .ret)))),[.t 2]⟩
theorem ref04_whole_ok : cFn Tryz.prog (kps [[0],[0,3],[0,3,4],[0,3,4,8],[0,3,4],[0,3,4,17],[0,3,4],[2]]) [] 115 = some ref04_whole_c := by kernel_rfl
end Go.Proofs.YtmjgehbpcchjpaaGreatDoor.F

namespace Go.Proofs.YtmjgehbpcchjpaaGreatDoor
open Go Go.Proofs Go.Proofs.YtmjgehbpcchjpaaGreatDoor.E
set_option linter.unusedSimpArgs false
set_option linter.unusedVariables false
theorem ref04_None : CallD Tryz.prog F.ref04_None [] (· = msN.v) := by
 refine aB F.ref04_None_ok ?_
 unfold F.ref04_None_c
 simp [ag, List.filter_cons]
 refine ai ref02_Zero (by simp) ?_
 simp [ag, List.filter_cons, bb, Raw.v]
 refine ak ref02_Zero (by simp) ?_
 simp [ag, List.filter_cons, bb, Raw.v]
 refine ak ref02_Zero (by simp) ?_
 simp [ag, List.filter_cons, bb, Raw.v]
 refine ak ref02_Zero (by simp) ?_
 simp [ag, List.filter_cons, bb, Raw.v]
 refine ak ref02_Zero (by simp) ?_
 simp [ag, List.filter_cons, bb, Raw.v, msN, msC, am]
theorem ref04_copied : ∀ {v : Tr}, v.Ok → cQ v ≤ 1000000 → CallD Tryz.prog F.ref04_copied [.agg v.cells] (· = .agg v.cells) := by
 intro v
 induction v using Tr.ind with
 | h k n l ih =>
   intro hv hm
   rw [lQ] at hm
   have m1 := pA l
   cases hv with
   | mk hk hn hl hc =>
     refine aB F.ref04_copied_ok ?_
     unfold F.ref04_copied_c
     simp [ag, List.filter_cons, ct]
     refine aH (fun g : Nat × Nat => ((((Sl.empty.set 4 (.int .i64 g.2)).set 3 (.ptr 2 0 0)).set 2 (.ptr 1 0 0)).set 1 (.ptr 0 0 0), [(0, ⟨.own, 3, [[.int .i64 k, .int .i64 n, tl l]]⟩), (1, ⟨.own, 3, [[.int .i64 0, .int .i64 0, .nils]]⟩), (2, ⟨.own, 3, [[.int .i64 k, .int .i64 n, bl g.1 g.2]]⟩)] ++ cL g.1 3 g.2 ((l.map Tr.cells).take g.2)))
      (fun g => g.2 ≤ l.length ∧ 2 < g.1) (fun g => l.length - g.2) (3, 0) (by simp) ?_ ?_
     ·refine aJ ?_ (by simp [aF, aP]) (by repeat (first | exact ac | refine ah (by simp [aF]) ?_)) (by simp [aF, aP])
      repeat (first | exact af | refine aj (by simp) ?_)
     rintro ⟨o, i⟩ ⟨hi, o2⟩
     dsimp only at hi o2
     have o0' : ¬ o = 0 := by omega
     have o1' : ¬ o = 1 := by omega
     have o2' : ¬ o = 2 := by omega
     have p0' : ¬ 0 = o := by omega
     have p1' : ¬ 1 = o := by omega
     have p2' : ¬ 2 = o := by omega
     have hw : ∀ n, ∀ r ∈ List.take n (l.map Tr.cells), ∀ y ∈ r, ∀ p : Nat → Bool, y.within p = true := fun n r hr y hy p => by
      obtain ⟨x, _, rfl⟩ := List.mem_map.1 (List.mem_of_mem_take hr)
      exact cX _ y hy
     by_cases h1 : i < l.length
     ·have e1 : List.take (i + 1) (l.map Tr.cells) = List.take i (l.map Tr.cells) ++ [l[i].cells] := by
       rw [List.take_succ_eq_append_getElem (by simpa using h1)]; simp
      have hmem := List.getElem_mem h1
      have hih := ih l[i] hmem (hc _ hmem) (by have := oF hmem; omega)
      by_cases hi0 : i = 0
      ·subst hi0
       simp at e1
       simp [h1, aF, aP, ag, List.filter_cons]
       refine ak hih (by simp [ba]) ?_
       simp (disch := omega) [ag, List.filter_cons, Nat.max_eq_right, Nat.max_eq_left, if_neg, if_pos]
       rw [ap (by omega) (by omega)]
       refine ⟨(4, 1), ⟨h1, by dsimp only; omega⟩, by dsimp only; omega, ?_⟩
       refine aJ ?_ ?_ (by repeat (first | exact ac | refine ah (by simp [ay]) ?_)) ?_
       ·repeat (first | exact af | refine aj (by simp) ?_)
       ·simp (disch := omega) [ay, ax, e1, if_neg]
       ·simp only [ay (show 1 ≠ 0 by omega), ax (show 1 ≠ 0 by omega)]
        intro p hp r hr y hy
        simp at hp
        rcases hp with rfl | rfl | rfl | rfl
        ·simp at hr; subst hr; simp at hy; rcases hy with rfl | rfl | rfl <;> simp [V.within]
        ·simp at hr; subst hr; simp at hy; rcases hy with rfl | rfl | rfl <;> simp [V.within]
        ·simp at hr; subst hr; simp at hy; rcases hy with rfl | rfl | rfl <;> simp [V.within]
        ·exact hw _ r hr y hy _
      ·simp (disch := omega) [h1, ax hi0, ay hi0, o0', o1', o2', p0', p1', p2', ag, List.filter_cons, Nat.max_eq_right, Nat.max_eq_left, if_neg, if_pos]
       refine ak hih (by simp [ba]) ?_
       simp (disch := omega) [o0', o1', o2', p0', p1', p2', ag, List.filter_cons, Nat.max_eq_right, Nat.max_eq_left, if_neg, if_pos]
       rw [ap (by omega) (by omega)]
       refine ⟨(o + 2, i + 1), ⟨h1, by dsimp only; omega⟩, by dsimp only; omega, ?_⟩
       refine aJ ?_ ?_ (by repeat (first | exact ac | refine ah (by simp [ay]) ?_)) ?_
       ·repeat (first | exact af | refine aj (by simp) ?_)
       ·simp (disch := omega) [ay, ax, e1, o0', o1', o2', if_neg]
       ·simp only [ay (show i + 1 ≠ 0 by omega), ax (show i + 1 ≠ 0 by omega)]
        intro p hp r hr y hy
        simp at hp
        rcases hp with rfl | rfl | rfl | rfl
        ·simp at hr; subst hr; simp at hy; rcases hy with rfl | rfl | rfl <;> simp [V.within]
        ·simp at hr; subst hr; simp at hy; rcases hy with rfl | rfl | rfl <;> simp [V.within]
        ·simp at hr; subst hr; simp at hy; rcases hy with rfl | rfl | rfl <;> simp [V.within]
        ·exact hw _ r hr y hy _
     ·have hil : i = l.length := by omega
      subst hil
      simp [h1]
      rw [cI (k := 10) (st := .own) (es := 3) (l := l.map Tr.cells) (fun h => by simp [ay h, ab, E.look, o0', o1', o2', p0', p1', p2', List.take_of_length_le]) (by simp) (by simp) (by simp) (fun r hr => by obtain ⟨x, _, rfl⟩ := List.mem_map.1 hr; exact ba _ _ _)]
theorem j8 {K : Nat} (hK31 : K ≤ 2 ^ 31) {x : Raw} (hx : x.Ok K) : CallD Tryz.prog F.ref02_Add [x.v, (ao 0).v] (· = bb x.q) := by
 have := ref02_Add (rok hx hK31) (bw (fits_zero.mono (show 1 ≤ 2 ^ 31 by omega)))
 rwa [be, Rat.add_zero] at this
def nzP (l : List Part) : List Part := l.filter fun p => decide (p.w.q ≠ 0)
theorem iZ {r : Rat} : dY r = 0 ↔ r = 0 := by
 unfold dY gS
 constructor
 ·intro h
  by_cases h1 : r < 0
  ·rw [if_pos h1] at h; omega
  ·rw [if_neg h1] at h
   by_cases h2 : 0 < r
   ·rw [if_pos h2] at h; omega
   ·grind
 ·rintro rfl; simp
open Go.RowKit in
/-- A call without objects of the caller's whose result is a new list. -/
theorem jI {P : Program} {f n es : Nat} {ds : List V} {l : List (List V)} (h : CallX P f ds [] (fun v s => ∃ o, v = bl o n ∧ s = cL o es n l)) (he : es ≠ 0) (hl : l.length = n) (hr : ∀ r ∈ l, ∀ σ k, bo (toD σ (k + 1)) r = some r) : CallD P f ds (· = .dat l) := by
 refine ⟨h.1, fun I w cs hI hT hargs => ?_⟩
 have hinv : Inv w w.heap.size I I Beta.none [] w := ⟨Below.refl _ _, Nat.le_refl _, hI, fun _ _ => rfl, hT, fun o x h => by simp [Beta.none] at h, fun o x h => by simp [E.look] at h, fun o o' x x' k k' h => by simp [E.look] at h⟩
 refine (h.2 w w.heap.size I I Beta.none w cs hinv hargs).mono ?_
 rintro e w' ⟨rv, I', β', r2, s, rfl, h2, h3, h4, o, rfl, rfl⟩
 obtain ⟨hF, hext⟩ := h2.freeze (rch (cL o es n l) deep (bl o n))
 have hd : toD (cL o es n l) deep (bl o n) = some (.dat l) := cI (k := 11) (st := .own) (fun h0 => by rw [ay h0]; simp [E.look]) (by simp) he hl fun r hx => hr r hx _ _
 have hd' := iL h2 (rch (cL o es n l) deep (bl o n)) deep rv _ _ h4 hd (fun o ho => ho)
 exact ⟨rv, _, _, rfl, hF.below, fun b arr hb => hext.imm _ _ (h3.imm _ _ hb), hF.imm, hF.old, hd', rfl⟩
theorem kd {l : List Part} (hl : l.length ≤ 1000000) (ho : ∀ p ∈ l, p.w.Ok (2 ^ 33)) : CallX Tryz.prog F.ref04_whole [pl l] [] (fun v s => ∃ o, v = bl o (nzP l).length ∧ s = cL o 6 (nzP l).length ((nzP l).map aA)) := by
 refine cF F.ref04_whole_ok ?_
 unfold F.ref04_whole_c
 simp [ag, List.filter_cons]
 have gl : ∀ i, (nzP (l.take i)).length ≤ i := fun i => Nat.le_trans (List.length_filter_le _ _) (by rw [List.length_take]; omega)
 refine aH (fun g : Nat × Nat => (((Sl.empty.set 4 (.int .i64 g.2)).set 3 (bl g.1 (nzP (l.take g.2)).length)).set 0 (pl l), cL g.1 6 (nzP (l.take g.2)).length ((nzP (l.take g.2)).map aA)))
  (fun g => g.2 ≤ l.length) (fun g => l.length - g.2) (0, 0) (by simp) ?_ ?_
 ·refine aJ ?_ (by simp [nzP, aF, aP]) (by repeat (first | exact ac | refine ah (by simp [nzP, aF]) ?_)) (by simp [nzP, aF, aP])
  simp only [nzP, List.take_zero, List.filter_nil, List.length_nil, aF]
  repeat (first | exact af | refine aj (by simp) ?_)
 rintro ⟨o, i⟩ hi
 dsimp only at hi
 have hw : ∀ {L : List Part}, ∀ r ∈ L.map aA, ∀ y ∈ r, ∀ p : Nat → Bool, y.within p = true := fun r hr y hy p => by
  obtain ⟨x, _, rfl⟩ := List.mem_map.1 hr
  exact bn x y hy p
 by_cases h1 : i < l.length
 ·have okw := ho _ (List.getElem_mem h1)
  have tk : List.take 6 (aA l[i]) = aA l[i] := by simp
  have gi := gl i
  simp [h1, ag, List.filter_cons]
  refine ai (ref02_Sign okw) (by simp [bq, bW]) ?_
  by_cases hz : l[i].w.q = 0
  ·have hz' : dY l[i].w.q = 0 := iZ.2 hz
   have eG : nzP (l.take (i + 1)) = nzP (l.take i) := by
    unfold nzP
    rw [List.take_succ_eq_append_getElem h1, List.filter_append]
    simp [hz]
   simp [hz', h1, ag, List.filter_cons]
   rw [ap (by omega) (by omega)]
   refine ⟨(o, i + 1), h1, by dsimp only; omega, ?_⟩
   dsimp only
   rw [eG]
   by_cases n0 : (nzP (l.take i)).length = 0
   ·have e0 : nzP (l.take i) = [] := List.length_eq_zero_iff.1 n0
    rw [e0]
    refine aJ ?_ (by simp [aF, aP]) (by repeat (first | exact ac | refine ah (by simp [aF]) ?_)) (by simp [aF, aP])
    simp only [List.length_nil, aF]
    repeat (first | exact af | refine aj (by simp) ?_)
   ·simp only [ax n0, ay n0]
    refine aJ ?_ (by simp) (by repeat (first | exact ac | refine ah (by simp) ?_)) ?_
    ·repeat (first | exact af | refine aj (by simp) ?_)
    ·intro p hp r hr y hy
     simp at hp; subst hp
     exact hw _ hr y hy _
  ·have hz' : ¬ dY l[i].w.q = 0 := fun h => hz (iZ.1 h)
   have eG : nzP (l.take (i + 1)) = nzP (l.take i) ++ [l[i]] := by
    unfold nzP
    rw [List.take_succ_eq_append_getElem h1, List.filter_append]
    simp [hz]
   by_cases hi0 : (nzP (l.take i)).length = 0
   ·have e0 : nzP (l.take i) = [] := List.length_eq_zero_iff.1 hi0
    rw [e0] at eG ⊢
    simp [hz', h1, tk, aF, aP, ag, List.filter_cons]
    rw [ap (by omega) (by omega)]
    refine ⟨(1, i + 1), h1, by dsimp only; omega, ?_⟩
    dsimp only
    rw [eG]
    refine aJ ?_ (by simp [ay]) (by simp only [List.nil_append, List.length_singleton, ax (show 1 ≠ 0 by omega)]; repeat (first | exact ac | refine ah (by simp [ay]) ?_)) ?_
    ·simp only [List.nil_append, List.length_singleton, ax (show 1 ≠ 0 by omega)]
     repeat (first | exact af | refine aj (by simp) ?_)
    ·simp only [List.nil_append, List.length_singleton, ay (show 1 ≠ 0 by omega)]
     intro p hp r hr y hy
     simp at hp; subst hp
     exact hw (L := [l[i]]) _ hr y hy _
   ·simp (disch := omega) [hz', h1, tk, ax hi0, ay hi0, ag, List.filter_cons, Nat.max_eq_right, Nat.max_eq_left, if_neg, if_pos]
    rw [ap (by omega) (by omega)]
    refine ⟨(o + 2, i + 1), h1, by dsimp only; omega, ?_⟩
    dsimp only
    have n1 : (nzP (l.take (i + 1))).length ≠ 0 := by rw [eG]; simp
    have n2 : (nzP (l.take (i + 1))).length = (nzP (l.take i)).length + 1 := by rw [eG]; simp
    have n3 : (nzP (l.take (i + 1))).map aA = (nzP (l.take i)).map aA ++ [aA l[i]] := by rw [eG]; simp
    simp only [ax n1, ay n1]
    refine aJ ?_ (by simp [n3]) (by repeat (first | exact ac | refine ah (by simp) ?_)) ?_
    ·repeat (first | exact af | refine aj (by simp [n2]) ?_)
    ·intro p hp r hr y hy
     simp at hp; subst hp
     exact hw _ hr y hy _
 ·have hil : i = l.length := by omega
  subst hil
  have hw2 : l.take l.length = l := List.take_length
  rw [hw2]
  simp [h1]
  refine E.doneX_new (by simp) (by simp; rfl) rfl (fun h0 => ?_) (fun r hr y hy p => hw (L := nzP l) r hr y hy p)
  rw [ay h0]
  simp [E.look]
theorem ref04_whole {l : List Part} (hl : l.length ≤ 1000000) (ho : ∀ p ∈ l, p.w.Ok (2 ^ 33)) : CallD Tryz.prog F.ref04_whole [pl l] (· = pl (nzP l)) :=
 jI (kd hl ho) (by omega) (by simp) fun r hr σ n => by obtain ⟨x, _, rfl⟩ := List.mem_map.1 hr; exact bG _ _ _
end Go.Proofs.YtmjgehbpcchjpaaGreatDoor
