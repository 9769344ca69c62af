import Derived.Test.YtmjgehbpcchjpaaGreatDoorHR
namespace Go.Proofs.YtmjgehbpcchjpaaGreatDoor.F
open Go Go.Proofs Go.Proofs.YtmjgehbpcchjpaaGreatDoor.E Go.Proofs.YtmjgehbpcchjpaaGreatDoor.Q
abbrev weights_gather : Nat := 127
def weights_gather_c : MFn := ⟨41,(.seq (r [o 2 (.box (.t 0)),o 3 (.box (.t 1)),o 4 (.alloc zM)] [2,3,4]) (.seq (r [o 6 (.fA 0 (.t 2)),o 7 (.ld none (.t 6)),o 8 (.fA 0 (.t 3)),o 9 (.ld none (.t 8)),o 10 (.app 6 96 (.t 7) (.t 9)),o 11 (.fA 0 (.t 2)),z (.st 1 (.t 11) (.t 10))] [2,3,4]) (.seq (r [o 12 (.fA 1 (.t 2)),o 13 (.ld (some 3) (.t 12)),o 14 (.fA 1 (.t 3)),o 15 (.ld (some 3) (.t 14)),o 16 (.callF 40 [(.t 13),(.t 15)]),o 17 (.fA 4 (.t 2)),o 18 (.ld (some 3) (.t 17)),o 19 (.fA 4 (.t 3)),o 20 (.ld (some 3) (.t 19)),o 21 (.callF 40 [(.t 18),(.t 20)]),o 22 (.fA 1 (.t 2)),z (.st 3 (.t 22) (.t 16)),o 23 (.fA 4 (.t 2)),z (.st 3 (.t 23) (.t 21))] [2,3,4]) (.seq (.seq (r [o 24 (.mv (i 0))] [2,3,4,24]) (.block 0 (.loop (.seq (r [o 25 (.bin .lss (.t 24) (i 3))] [2,3,4,24,25]) (.seq (.cond (.t 25) .skip (.exit 0)) (.seq (.block 1 (.seq (r [o 26 (.mv (.t 24)),o 5 (.mv (.t 26))] [2,3,4,5,24]) (r [o 27 (.mv (.t 5)),o 28 (.mv (.t 5)),o 29 (.fA 7 (.t 2)),o 30 (.ixArr 3 3 (.t 29) (.t 28)),o 31 (.ld (some 3) (.t 30)),o 32 (.mv (.t 5)),o 33 (.fA 7 (.t 3)),o 34 (.ixArr 3 3 (.t 33) (.t 32)),o 35 (.ld (some 3) (.t 34)),o 36 (.callF 40 [(.t 31),(.t 35)]),o 37 (.fA 7 (.t 2)),o 38 (.ixArr 3 3 (.t 37) (.t 27)),z (.st 3 (.t 38) (.t 36))] [2,3,4,24]))) (r [o 39 (.bin .add (.t 24) (i 1)),o 24 (.mv (.t 39))] [2,3,4,24]))))))) (.seq (r [o 40 (.ld (some 16) (.t 2)),z (.st 16 (.t 4) (.t 40))] [4]) .ret))))),[.cell 4 (some 16)]⟩
theorem weights_gather_ok : cFn Tryz.prog (kps [[2,3,4],[2,3,4],[2,3,4],[2,3,4,24],[2,3,4,24,25],[2,3,4,5,24],[2,3,4,24],[2,3,4,24],[4]]) [] 127 = some weights_gather_c := by kernel_rfl
abbrev weights_Bind : Nat := 119
def weights_Bind_c : MFn := ⟨31,(.seq (r [o 2 (.box (.t 0)),o 4 (.alloc zM)] [1,2,4]) (.seq (r [o 8 (.ld (some 16) (.t 2)),o 9 (.call 128 [(.t 8)]),z (.st 16 (.t 2) (.t 9))] [1,2,4]) (.seq (r [o 10 (.ld (some 16) (.t 2)),o 5 (.alloc zM),z (.st 16 (.t 5) (.t 10))] [1,2,4,5]) (.seq (r [o 11 (.fA 0 (.t 5)),z (.st 1 (.t 11) (.c .nils))] [1,2,4,5]) (.seq (.seq (r [o 12 (.fA 0 (.t 2)),o 13 (.ld none (.t 12)),o 14 (.lenS (.t 13)),o 15 (.mv (i 0))] [1,4,5,13,14,15]) (.block 0 (.loop (.seq (r [o 16 (.bin .lss (.t 15) (.t 14))] [1,4,5,13,14,15,16]) (.seq (.cond (.t 16) .skip (.exit 0)) (.seq (.block 1 (.seq (r [o 17 (.ixA 6 (.t 13) (.t 15)),o 18 (.ld (some 6) (.t 17)),o 7 (.alloc zP),z (.st 6 (.t 7) (.t 18))] [1,4,5,7,13,14,15]) (r [o 19 (.ld (some 16) (.t 5)),o 20 (.mv (.t 1)),o 21 (.fA 0 (.t 7)),o 22 (.ld (some 3) (.t 21)),o 23 (.rd2 .dyn [(.t 20),(.t 22)]),o 24 (.fA 3 (.t 7)),o 25 (.ld (some 3) (.t 24)),o 26 (.callF 83 [(.t 23),(.t 25)]),o 27 (.callXF 127 [(.t 19),(.t 26)]),z (.st 16 (.t 5) (.t 27))] [1,4,5,13,14,15]))) (r [o 28 (.bin .add (.t 15) (i 1)),o 15 (.mv (.t 28))] [1,4,5,13,14,15]))))))) (.seq (r [o 29 (.ld (some 16) (.t 5)),o 30 (.call 128 [(.t 29)]),z (.st 16 (.t 4) (.t 30))] [4]) .ret)))))),[.cell 4 (some 16)]⟩
theorem weights_Bind_ok : cFn Tryz.prog (kps [[1,2,4],[1,2,4],[1,2,4,5],[1,2,4,5],[1,4,5,13,14,15],[1,4,5,13,14,15,16],[1,4,5,7,13,14,15],[1,4,5,13,14,15],[1,4,5,13,14,15],[4]]) [1280007] 119 = some weights_Bind_c := by kernel_rfl
end Go.Proofs.YtmjgehbpcchjpaaGreatDoor.F

namespace Go.Proofs.YtmjgehbpcchjpaaGreatDoor
open Go Go.Proofs Go.Proofs.YtmjgehbpcchjpaaGreatDoor.E
set_option linter.unusedSimpArgs false
set_option linter.unusedVariables false
def gthN (σ : Sto) (q : Nat) (B : List Part) : Nat := if B = [] then q else fresh σ + 3
def gthS (σ : Sto) (q : Nat) (G B : List Part) : Sto := if B = [] then σ else if G = [] then setOb σ (fresh σ + 3) (obL B) else setOb (setOb σ q ⟨.dead, 6, []⟩) (fresh σ + 3) (obL (G ++ B))
def tailH (a b c d e c' d' e' : Raw) (g : Nat) : List V := tailC a b (if g ≤ 0 then c else c') (if g ≤ 1 then d else d') (if g ≤ 2 then e else e')
def apN (X : Sto) (q : Nat) (B : List Part) : Nat := if B = [] then q else fresh X
def apS (X : Sto) (q : Nat) (G B : List Part) : Sto := if B = [] then X else if G = [] then setOb X (fresh X) (obL B) else setOb (setOb X q ⟨.dead, 6, []⟩) (fresh X) (obL (G ++ B))
theorem app_grown {X : Sto} {q : Nat} {G B : List Part} (hG : G ≠ [] → E.look X q = some (obL G)) (lG : G.length ≤ 1000000) (lB : B.length ≤ 1000000) : appV X 6 96 (B.map partC) (grown q G.length) = some (grown (apN X q B) (G ++ B).length, apS X q G B) := by
 cases B with
 | nil =>
   have e : apN X q [] = q ∧ apS X q G [] = X := ⟨if_pos rfl, if_pos rfl⟩
   rw [e.1, e.2, List.append_nil]
   by_cases g0 : G.length = 0
   ·rw [g0]; rfl
   ·rw [grown_pos g0]; rfl
 | cons p B =>
   have e : apN X q (p :: B) = fresh X := if_neg (by simp)
   rw [e]
   simp at lB
   by_cases g0 : G = []
   ·subst g0
    simp (disch := omega) [appV, grown_zero, apS, obL, if_pos]
    rw [grown_pos (by simp)]
   ·have g1 : G.length ≠ 0 := fun h => g0 (List.length_eq_zero_iff.1 h)
    rw [grown_pos g1]
    have hq := hG g0
    simp (disch := omega) [appV, hq, getOb, apS, g0, obL, if_pos]
    rw [grown_pos (by omega)]
theorem elems_pl {X : Sto} {B : List Part} : elems X 6 (pl B) = some (B.map partC) := by
 cases B with
 | nil => simp [elems]
 | cons p B =>
   have hd : pl (p :: B) = .dat (partC p :: B.map partC) := rfl
   rw [hd]
   simp [elems]
set_option maxHeartbeats 8000000 in
theorem weights_gather {σ : Sto} {G : List Part} {q : Nat} {a b c d e : Raw} {y : Ms} (hs : Shut σ) (hG : G ≠ [] → E.look σ q = some (obL G)) (lG : G.length ≤ 1000000) (ly : y.parts.length ≤ 1000000)
 (ha : a.Ok (2 ^ 31)) (hb : b.Ok (2 ^ 31)) (hc : c.Ok (2 ^ 31)) (hd : d.Ok (2 ^ 31)) (he : e.Ok (2 ^ 31)) (hy : y.Ok (2 ^ 31)) :
 CallX Tryz.prog F.weights_gather [.agg (grown q G.length :: tailC a b c d e), y.v] σ (fun v s => v = .agg (grown (gthN σ q y.parts) (G ++ y.parts).length :: tailC (rawOf (a.q + y.rf.q)) (rawOf (b.q + y.lo.q)) (rawOf (c.q + y.f0.q)) (rawOf (d.q + y.f1.q)) (rawOf (e.q + y.f2.q))) ∧ s = gthS σ q G y.parts) := by
 refine callX_by F.weights_gather_ok ?_
 unfold F.weights_gather_c
 generalize hf : fresh σ = f
 have n0 : E.look σ f = none := look_fresh σ _ (by omega)
 have n1 : E.look σ (f + 1) = none := look_fresh σ _ (by omega)
 have n2 : E.look σ (f + 2) = none := look_fresh σ _ (by omega)
 have n3 : E.look σ (f + 3) = none := look_fresh σ _ (by omega)
 have l16 : (msC y).length = 16 := by simp [msC, tailC]
 have l15 : ∀ {a b c d e : Raw}, (tailC a b c d e).length = 15 := by simp [tailC]
 simp (disch := omega) [-look_setOb, hf, fresh_so, l16, l15, Nat.max_eq_left, Nat.max_eq_right]
 have hGX := hG
 generalize hX : setOb (setOb (setOb σ f ⟨.own, 16, [grown q G.length :: tailC a b c d e]⟩) (f + 1) ⟨.own, 16, [msC y]⟩) (f + 1 + 1) ⟨.own, 16, [[.nils, .bool false, .nils, .nils, .bool false, .nils, .nils, .bool false, .nils, .nils, .bool false, .nils, .nils, .bool false, .nils, .nils]]⟩ = X
 have hX0 : E.look X f = some ⟨.own, 16, [grown q G.length :: tailC a b c d e]⟩ := by rw [← hX, look_setOb, if_neg (by omega), look_setOb, if_neg (by omega), look_setOb, if_pos rfl]
 have hX1 : E.look X (f + 1) = some ⟨.own, 16, [msC y]⟩ := by rw [← hX, look_setOb, if_neg (by omega), look_setOb, if_pos rfl]
 have hX2 : E.look X (f + 1 + 1) = some ⟨.own, 16, [zero16]⟩ := by rw [← hX, look_setOb, if_pos rfl]; rfl
 have hXo : ∀ o, o < f → E.look X o = E.look σ o := fun o ho => by rw [← hX, look_setOb, if_neg (by omega), look_setOb, if_neg (by omega), look_setOb, if_neg (by omega)]
 have hXf : fresh X = f + 3 := by rw [← hX, fresh_so, fresh_so, fresh_so, hf]; omega
 have hq : G ≠ [] → q < f := fun h => by rw [← hf]; exact lt_fresh (hG h)
 have hap := app_grown (X := X) (B := y.parts) (fun h => by rw [hXo q (hq h)]; exact hG h) lG ly
 have hYo : ∀ o, o ≠ q → o ≠ f + 3 → E.look (apS X q G y.parts) o = E.look X o := fun o h1 h2 => by
  unfold apS
  rw [hXf]
  split
  ·rfl
  split
  ·rw [look_setOb, if_neg h2]
  ·rw [look_setOb, if_neg h2, look_setOb, if_neg h1]
 have hYq : G = [] → ∀ o, o ≠ f + 3 → E.look (apS X q G y.parts) o = E.look X o := fun h o h2 => by
  unfold apS
  rw [hXf]
  by_cases hB : y.parts = []
  ·rw [if_pos hB]
  ·rw [if_neg hB, if_pos h, look_setOb, if_neg h2]
 have hYx : ∀ o, f ≤ o → o ≠ f + 3 → E.look (apS X q G y.parts) o = E.look X o := fun o h1 h2 => by
  by_cases g0 : G = []
  ·exact hYq g0 o h2
  ·exact hYo o (by have := hq g0; omega) h2
 have hY0 := (hYx f (by omega) (by omega)).trans hX0
 have hY1 := (hYx (f + 1) (by omega) (by omega)).trans hX1
 have hY2 := (hYx (f + 1 + 1) (by omega) (by omega)).trans hX2
 have hsX : Shut X := by
  rw [← hX]
  refine shut_set (shut_set (shut_sg hs fun r hr z hz => ?_) (plain_row (msC_in y))) (plain_row (by simp [V.within]))
  simp only [List.mem_singleton] at hr; subst hr
  rcases List.mem_cons.1 hz with rfl | hz
  ·by_cases g0 : G.length = 0
   ·rw [g0, grown_zero]; simp [V.within]
   ·rw [grown_pos g0, within_ref, look_setOb]
    split
    ·rfl
    ·rw [hG fun h => g0 (by rw [h]; rfl)]; rfl
  ·exact tail_in _ _ _ _ _ z hz _
 have hsY : Shut (apS X q G y.parts) := by
  unfold apS
  split
  ·exact hsX
  split
  ·exact shut_set hsX (plain_L _)
  ·exact shut_set (shut_set hsX (fun r hr => by simp at hr)) (plain_L _)
 have hLw : (grown (apN X q y.parts) (G.length + y.parts.length)).within (fun o => (E.look (apS X q G y.parts) o).isSome) = true := by
  by_cases hB : y.parts = []
  ·have e1 : apN X q y.parts = q := if_pos hB
   have e2 : apS X q G y.parts = X := if_pos hB
   rw [e1, e2, hB]
   by_cases g0 : G.length = 0
   ·rw [g0]; simp [grown_zero, V.within]
   ·have g1 : G ≠ [] := fun h => g0 (by rw [h]; rfl)
    rw [grown_pos (by simpa using g1), within_ref, hXo q (hq g1), hG g1]; rfl
  ·have b0 : y.parts.length ≠ 0 := fun h => hB (List.length_eq_zero_iff.1 h)
   have e1 : apN X q y.parts = fresh X := if_neg hB
   rw [e1, grown_pos (by omega), within_ref]
   unfold apS
   rw [if_neg hB]
   split
   ·rw [look_setOb, if_pos rfl]; rfl
   ·rw [look_setOb, if_pos rfl]; rfl
 have hLc : grown (apN X q y.parts) (G.length + y.parts.length) = .nils ∨ ∃ o n, grown (apN X q y.parts) (G.length + y.parts.length) = .ref o 0 n := by
  by_cases h : G.length + y.parts.length = 0
  ·rw [h]; exact .inl rfl
  ·rw [grown_pos h]; exact .inr ⟨_, _, rfl⟩
 have hN : gthN σ q y.parts = apN X q y.parts := by unfold gthN apN; rw [hXf, hf]
 have hHas : Has (gthS σ q G y.parts) (apS X q G y.parts) := fun o x ho => by
  unfold gthS at ho
  unfold apS
  rw [hf] at ho
  rw [hXf]
  have old : E.look σ o = some x → o < f := fun h => by rw [← hf]; exact lt_fresh h
  by_cases hB : y.parts = []
  ·rw [if_pos hB] at ho ⊢
   rw [hXo o (old ho)]; exact ho
  ·rw [if_neg hB] at ho ⊢
   by_cases g0 : G = []
   ·rw [if_pos g0, look_setOb] at ho ⊢
    split at ho
    ·rename_i e; rw [if_pos e]; exact ho
    ·rename_i e; rw [if_neg e, hXo o (old ho)]; exact ho
   ·rw [if_neg g0, look_setOb, look_setOb] at ho ⊢
    split at ho
    ·rename_i e; rw [if_pos e]; exact ho
    ·rename_i e
     rw [if_neg e]
     split at ho
     ·rename_i e2; rw [if_pos e2]; exact ho
     ·rename_i e2; rw [if_neg e2, hXo o (old ho)]; exact ho
 have hHs : Shut (gthS σ q G y.parts) := by
  unfold gthS
  split
  ·exact hs
  split
  ·exact shut_set hs (plain_L _)
  ·exact shut_set (shut_set hs (fun r hr => by simp at hr)) (plain_L _)
 have hHk : ∀ o, (E.look σ o).isSome = true → (E.look (gthS σ q G y.parts) o).isSome = true := fun o ho => by
  unfold gthS
  split
  ·exact ho
  split
  ·rw [look_setOb]; split
   ·rfl
   ·exact ho
  ·rw [look_setOb, look_setOb]; split
   ·rfl
   split
   ·rfl
   ·exact ho
 have hHn : ∀ o, o = f ∨ o = f + 1 + 1 → E.look (gthS σ q G y.parts) o = none := fun o ho => by
  have n4 : E.look σ o = none := by
   rcases ho with h | h
   ·rw [h]; exact n0
   ·rw [h]; exact n2
  unfold gthS
  rw [hf]
  split
  ·exact n4
  split
  ·rw [look_setOb, if_neg (by omega)]; exact n4
  ·rename_i g0
   have := hq g0
   rw [look_setOb, if_neg (by omega), look_setOb, if_neg (by omega)]; exact n4
 have hLg : (grown (apN X q y.parts) (G.length + y.parts.length)).within (fun o => (E.look (gthS σ q G y.parts) o).isSome) = true := by
  by_cases hB : y.parts = []
  ·have e1 : apN X q y.parts = q := if_pos hB
   have e2 : gthS σ q G y.parts = σ := if_pos hB
   rw [e1, e2, hB]
   by_cases g0 : G.length = 0
   ·rw [g0]; simp [grown_zero, V.within]
   ·have g1 : G ≠ [] := fun h => g0 (by rw [h]; rfl)
    rw [grown_pos (by simpa using g1), within_ref, hG g1]; rfl
  ·have b0 : y.parts.length ≠ 0 := fun h => hB (List.length_eq_zero_iff.1 h)
   have e1 : apN X q y.parts = f + 3 := by rw [← hXf]; exact if_neg hB
   rw [e1, grown_pos (by omega), within_ref]
   unfold gthS
   rw [if_neg hB, hf]
   split
   ·rw [look_setOb, if_pos rfl]; rfl
   ·rw [look_setOb, if_pos rfl]; rfl
 simp only [tailC, msC, zero16] at hX0 hX1 hX2 hY0 hY1 hY2
 simp [-appV, -elems, hX0, hX1, hap, elems_pl]
 rw [hN]
 clear hap hN hYo hYq hYx
 generalize grown (apN X q y.parts) (G.length + y.parts.length) = L at *
 generalize hY : apS X q G y.parts = Y at *
 have x1 : ¬ f = f + 1 := by omega
 have x2 : ¬ f + 1 = f := by omega
 have x3 : ¬ f + 1 + 1 = f := by omega
 have x4 : ¬ f = f + 1 + 1 := by omega
 have x5 : ¬ f + 1 + 1 = f + 1 := by omega
 have x6 : ¬ f + 1 = f + 1 + 1 := by omega
 let A := rawOf (a.q + y.rf.q)
 let B := rawOf (b.q + y.lo.q)
 let C := rawOf (c.q + y.f0.q)
 let D := rawOf (d.q + y.f1.q)
 let H := rawOf (e.q + y.f2.q)
 obtain ⟨Z, hZ⟩ : ∃ Z : Nat → Sto, ∀ g, Z g = setOb Y f ⟨.own, 16, [L :: tailH A B c d e C D H g]⟩ := ⟨_, fun _ => rfl⟩
 have hZs : ∀ g, Shut (Z g) := fun g => hZ g ▸ shut_sg hsY fun r hr z hz => by
  simp only [List.mem_singleton] at hr; subst hr
  rcases List.mem_cons.1 hz with rfl | hz
  ·exact within_set hLw
  ·exact tail_in _ _ _ _ _ z hz _
 have hsome : ∀ {o : Nat} {x : Ob}, E.look Y o = some x → (E.look Y o).isSome = true := fun h => by rw [h]; rfl
 have s0 := hsome hY0
 have s1 := hsome hY1
 have s2 := hsome hY2
 have hZk : ∀ g, ∀ k ∈ σ.map (·.1), (E.look (Z g) k).isSome = true := fun g => hZ g ▸ keep_set fun k hk => by
  have := hHk k (keys_look k hk)
  obtain ⟨x, hx⟩ := Option.isSome_iff_exists.1 this
  rw [hHas k x hx]; rfl
 have wp : ∀ g o, (E.look Y o).isSome = true → (E.look (Z g) o).isSome = true := fun g o ho => by
  rw [hZ, look_setOb]; split
  ·rfl
  ·exact ho
 have hW : ∀ (S : Sl) (σ' : Sto) (g : Nat), Sub ((((Sl.empty.set 24 (.int .i64 g)).set 4 (.ptr (f + 1 + 1) 0 0)).set 3 (.ptr (f + 1) 0 0)).set 2 (.ptr f 0 0)) S → σ' = Z g → Weak (σ.map (·.1)) ((((Sl.empty.set 24 (.int .i64 g)).set 4 (.ptr (f + 1 + 1) 0 0)).set 3 (.ptr (f + 1) 0 0)).set 2 (.ptr f 0 0)) (Z g) S σ' := fun S σ' g h1 h2 => by
  subst h2
  refine weak_gen h1 (Has.refl _) (hZk g) ?_ (hZs g)
  repeat (first | exact sin_empty | refine sin_set (by first | (simp; done) | (rw [within_ptr]; first | exact wp g _ s0 | exact wp g _ s1 | exact wp g _ s2)) ?_)
 rcases hLc with hL | ⟨o', n', hL⟩
 all_goals
  simp [hL, hY0, hY1, hY2, getOb, x1, x2, x3, x4, x5, x6]
  refine callFK_of (ratio_Add ha hy.rf) (by simp [Raw.v]) ?_
  simp [ratV, Raw.v, hY0, hY1, hY2, getOb, x1, x2, x3, x4, x5, x6]
  refine callFK_of (ratio_Add hb hy.lo) (by simp [Raw.v]) ?_
  simp [ratV, Raw.v, hY0, hY1, hY2, getOb, x1, x2, x3, x4, x5, x6, setOb2]
  refine wm_loop (fun g : Nat => ((((Sl.empty.set 24 (.int .i64 g)).set 4 (.ptr (f + 1 + 1) 0 0)).set 3 (.ptr (f + 1) 0 0)).set 2 (.ptr f 0 0), Z g)) (fun g => g ≤ 3) (fun g => 3 - g) 0 (by omega) ?_ ?_
  ·refine hW _ _ 0 ?_ (by rw [hZ, hL]; rfl)
   repeat (first | exact sub_empty | refine sub_set (by simp) ?_)
  intro g hg
  by_cases hg3 : g < 3
  ·rcases (show g = 0 ∨ g = 1 ∨ g = 2 by omega) with rfl | rfl | rfl
   ·simp [hZ 0, hL, tailH, tailC, hY1, hY2, getOb, x1, x2, x3, x4, x5, x6]
    refine callFK_of (ratio_Add hc hy.f0) (by simp [Raw.v]) ?_
    simp [ratV, Raw.v, hL, hY1, hY2, getOb, x1, x2, x3, x4, x5, x6, setOb2]
    rw [wrap64 (by omega) (by omega)]
    refine ⟨1, by omega, by dsimp only; omega, hW _ _ 1 ?_ (by rw [hZ, hL]; rfl)⟩
    repeat (first | exact sub_empty | refine sub_set (by simp) ?_)
   ·simp [hZ 1, hL, tailH, tailC, hY1, hY2, getOb, x1, x2, x3, x4, x5, x6]
    refine callFK_of (ratio_Add hd hy.f1) (by simp [Raw.v]) ?_
    simp [ratV, Raw.v, hL, hY1, hY2, getOb, x1, x2, x3, x4, x5, x6, setOb2]
    rw [wrap64 (by omega) (by omega)]
    refine ⟨2, by omega, by dsimp only; omega, hW _ _ 2 ?_ (by rw [hZ, hL]; rfl)⟩
    repeat (first | exact sub_empty | refine sub_set (by simp) ?_)
   ·simp [hZ 2, hL, tailH, tailC, hY1, hY2, getOb, x1, x2, x3, x4, x5, x6]
    refine callFK_of (ratio_Add he hy.f2) (by simp [Raw.v]) ?_
    simp [ratV, Raw.v, hL, hY1, hY2, getOb, x1, x2, x3, x4, x5, x6, setOb2]
    rw [wrap64 (by omega) (by omega)]
    refine ⟨3, by omega, by dsimp only; omega, hW _ _ 3 ?_ (by rw [hZ, hL]; rfl)⟩
    repeat (first | exact sub_empty | refine sub_set (by simp) ?_)
  have e3 : g = 3 := by omega
  subst e3
  simp [hZ 3, hL, tailH, tailC, hY1, hY2, getOb, x1, x2, x3, x4, x5, x6]
  refine doneX_gen (r := .agg (L :: tailC A B C D H)) (l := [.agg (L :: tailC A B C D H)]) (σ1 := gthS σ q G y.parts) (by simp) (by simp [hL, tailC]) rfl (fun o x ho => ?_) (fun k hk => hHk k (keys_look k hk)) hHs ?_ ⟨by rw [hL]; simp [tailC, A, B, C, D, H], rfl⟩
  ·have m1 : ¬ o = f := fun h => by rw [h, hHn f (.inl rfl)] at ho; simp at ho
   have m2 : ¬ o = f + 1 + 1 := fun h => by rw [h, hHn (f + 1 + 1) (.inr rfl)] at ho; simp at ho
   rw [look_setOb, if_neg m2, look_setOb, if_neg m1]
   exact hHas o x ho
  ·rw [within_agg, List.all_eq_true]
   intro z hz
   rcases List.mem_cons.1 hz with rfl | hz
   ·exact hLg
   ·exact tail_in _ _ _ _ _ z hz _
end Go.Proofs.YtmjgehbpcchjpaaGreatDoor

namespace Go.Proofs.YtmjgehbpcchjpaaGreatDoor
open Go Go.Proofs Go.Proofs.YtmjgehbpcchjpaaGreatDoor.E
set_option linter.unusedSimpArgs false
set_option linter.unusedVariables false
theorem gthS_look {σ : Sto} {q o : Nat} {G B : List Part} (h : G ≠ [] → o ≠ q) (ho : o < fresh σ) : E.look (gthS σ q G B) o = E.look σ o := by
 unfold gthS
 split
 ·rfl
 split
 ·rw [look_setOb, if_neg (by omega)]
 ·rename_i g0
  rw [look_setOb, if_neg (by omega), look_setOb, if_neg (h g0)]
theorem gthS_shut {σ : Sto} {q : Nat} {G B : List Part} (hs : Shut σ) : Shut (gthS σ q G B) := by
 unfold gthS
 split
 ·exact hs
 split
 ·exact shut_set hs (plain_L _)
 ·exact shut_set (shut_set hs (fun r hr => by simp at hr)) (plain_L _)
theorem gthS_list {σ : Sto} {q : Nat} {G B : List Part} (hG : G ≠ [] → E.look σ q = some (obL G)) (hn : G ++ B ≠ []) : E.look (gthS σ q G B) (gthN σ q B) = some (obL (G ++ B)) := by
 unfold gthS gthN
 by_cases hB : B = []
 ·rw [if_pos hB, if_pos hB, hB, List.append_nil]
  exact hG (fun h => hn (by rw [h, hB]; rfl))
 ·rw [if_neg hB, if_neg hB]
  split
  ·rename_i g0; rw [look_setOb, if_pos rfl, g0, List.nil_append]
  ·rw [look_setOb, if_pos rfl]
theorem gthN_ne {σ : Sto} {q o : Nat} {G B : List Part} (h : G ≠ [] → q ≠ o) (hn : G ++ B ≠ []) (ho : o < fresh σ) : gthN σ q B ≠ o := by
 unfold gthN
 split
 ·rename_i hB; exact h (fun h => hn (by rw [h, hB]; rfl))
 ·omega
def Elts (l : List V) : Prop := ∀ y ∈ l, ∃ r, y = .elt r
theorem Elts.toPs {l : List V} (h : Elts l) (σ : Sto) : toPs σ l = some l := by
 induction l with
 | nil => rfl
 | cons a l ih =>
   obtain ⟨r, rfl⟩ := h a (by simp)
   have := ih fun y hy => h y (by simp [hy])
   simp only [E.toPs, this]
   rfl
theorem Elts.rchPs {l : List V} (h : Elts l) (σ : Sto) : rchPs σ l = [] := by
 unfold E.rchPs
 rw [List.flatMap_eq_nil_iff]
 intro y hy
 obtain ⟨r, rfl⟩ := h y hy
 rfl
theorem Elts.within {l : List V} (h : Elts l) (p : Nat → Bool) (f : Nat) : (V.clo f l).within p = true := by
 simp [V.within]
 intro y hy
 obtain ⟨r, rfl⟩ := h y hy
 simp [V.within]
theorem toP_cells (σ : Sto) (n : Nat) (t : Tr) : mapO (toP σ (n + 1)) t.cells = some t.cells := by
 cases t; rw [cells_mk]; simp [mapO, toP]
theorem rchP_cells (σ : Sto) (n : Nat) (t : Tr) : t.cells.flatMap (rchP σ (n + 1)) = [] := by
 cases t; rw [cells_mk]; simp [rchP]
theorem toPs_call {cp : List V} (he : Elts cp) (v : Tr) (σ : Sto) : toPs σ ([.agg v.cells] ++ cp) = some (.agg v.cells :: cp) := by
 have h := he.toPs σ
 have e : toP σ deep (.agg v.cells) = some (.agg v.cells) := by
  show (mapO (toP σ 11) v.cells).map V.agg = _
  rw [toP_cells]; rfl
 simp only [List.cons_append, List.nil_append, E.toPs, e, h]
theorem behindP_call {cp : List V} (he : Elts cp) (v : Tr) (σ : Sto) (r : V) : behindP σ ([.agg v.cells] ++ cp) r = σ := by
 have e : rchPs σ ([.agg v.cells] ++ cp) = [] := by
  have h := he.rchPs σ
  unfold E.rchPs at h ⊢
  rw [List.flatMap_append, h]
  show v.cells.flatMap (rchP σ 11) ++ [] ++ [] = []
  rw [rchP_cells]; rfl
 unfold behindP
 rw [e, frz_nil]
 split <;> rfl
theorem toD_msV (σ : Sto) (n : Nat) (m : Ms) : mapO (toD σ (n + 1)) (msC m) = some (msC m) := by simp [msC, tailC]
theorem rch_msV (σ : Sto) (n : Nat) (m : Ms) : (msC m).flatMap (rch σ n) = [] := by simp [msC, tailC]
def accB (m : Ms) (g : Tr → Ms) (L : List Part) : Ms :=
 ⟨(L.map fun p => normP (sclP (g p.v).parts p.w.q)).flatten,
  rawOf (m.rf.q + sumBy (fun p => (g p.v).rf.q * p.w.q) L), rawOf (m.lo.q + sumBy (fun p => (g p.v).lo.q * p.w.q) L),
  rawOf (m.f0.q + sumBy (fun p => (g p.v).f0.q * p.w.q) L), rawOf (m.f1.q + sumBy (fun p => (g p.v).f1.q * p.w.q) L), rawOf (m.f2.q + sumBy (fun p => (g p.v).f2.q * p.w.q) L)⟩
theorem accB_parts {m : Ms} {g : Tr → Ms} {L : List Part} {i : Nat} (h : i < L.length) : (accB m g (L.take (i + 1))).parts = (accB m g (L.take i)).parts ++ (normM (sclM (g L[i].v) L[i].w.q)).parts := by
 simp only [accB]
 rw [List.take_succ_eq_append_getElem h, List.map_append, List.flatten_append]
 simp [normM, sclM]
theorem accB_q {m : Ms} {g : Tr → Ms} {L : List Part} {i : Nat} (h : i < L.length) :
 rawOf ((accB m g (L.take i)).rf.q + (normM (sclM (g L[i].v) L[i].w.q)).rf.q) = (accB m g (L.take (i + 1))).rf ∧
 rawOf ((accB m g (L.take i)).lo.q + (normM (sclM (g L[i].v) L[i].w.q)).lo.q) = (accB m g (L.take (i + 1))).lo ∧
 rawOf ((accB m g (L.take i)).f0.q + (normM (sclM (g L[i].v) L[i].w.q)).f0.q) = (accB m g (L.take (i + 1))).f0 ∧
 rawOf ((accB m g (L.take i)).f1.q + (normM (sclM (g L[i].v) L[i].w.q)).f1.q) = (accB m g (L.take (i + 1))).f1 ∧
 rawOf ((accB m g (L.take i)).f2.q + (normM (sclM (g L[i].v) L[i].w.q)).f2.q) = (accB m g (L.take (i + 1))).f2 := by
 have key : ∀ (x : Rat) (f : Part → Rat), rawOf ((rawOf (x + sumBy f (L.take i))).q + (rawOf (rawOf (f L[i])).q).q) = rawOf (x + sumBy f (L.take (i + 1))) := fun x f => by
  rw [sumBy_take h, rawOf_q, rawOf_q, rawOf_q]
  congr 1
  grind
 exact ⟨key _ _, key _ _, key _ _, key _ _, key _ _⟩
structure BI (A : Ms) (q : Nat) (τ : Sto) : Prop where
 res : E.look τ 1 = some ⟨.own, 16, [zero16]⟩
 out : E.look τ 2 = some ⟨.own, 16, [grown q A.parts.length :: tailC A.rf A.lo A.f0 A.f1 A.f2]⟩
 prt : A.parts ≠ [] → E.look τ q = some (obL A.parts)
 q2 : A.parts ≠ [] → q ≠ 1 ∧ q ≠ 2
 shut : Shut τ
def bindL (k : Nat) (cp : List V) (L : List Part) (i : Nat) : Sl := (((((Sl.empty.set 15 (.int .i64 i)).set 14 (.int .i64 L.length)).set 13 (pl L)).set 5 (.ptr 2 0 0)).set 4 (.ptr 1 0 0)).set 1 (.clo k cp)
theorem BI.weak {A : Ms} {q k i : Nat} {τ : Sto} {cp : List V} {L : List Part} {S : Sl} (I : BI A q τ) (he : Elts cp) (h : Sub (bindL k cp L i) S) : Weak [] (bindL k cp L i) τ S τ := by
 refine weak_gen h (Has.refl _) (by simp) ?_ I.shut
 unfold bindL
 have s1 : (E.look τ 1).isSome = true := by rw [I.res]; rfl
 have s2 : (E.look τ 2).isSome = true := by rw [I.out]; rfl
 repeat (first | exact sin_empty | refine sin_set (by first | (simp; done) | exact he.within _ _ | (rw [within_ptr]; first | exact s1 | exact s2)) ?_)
theorem BI.step {A y A' : Ms} {q : Nat} {τ : Sto} {x : Ob} (I : BI A q τ) (hx : Plain x.cells) (hp : A'.parts = A.parts ++ y.parts) :
 BI A' (gthN (setOb τ (fresh τ) x) q y.parts) (setOb (gthS (setOb τ (fresh τ) x) q A.parts y.parts) 2 ⟨.own, 16, [grown (gthN (setOb τ (fresh τ) x) q y.parts) A'.parts.length :: tailC A'.rf A'.lo A'.f0 A'.f1 A'.f2]⟩) := by
 have f1 := lt_fresh I.res
 have f2 := lt_fresh I.out
 have ff : fresh (setOb τ (fresh τ) x) = fresh τ + 1 := by rw [fresh_so]; omega
 have hl : ∀ o, o < fresh τ → E.look (setOb τ (fresh τ) x) o = E.look τ o := fun o ho => by rw [look_setOb, if_neg (by omega)]
 have hq : A.parts ≠ [] → E.look (setOb τ (fresh τ) x) q = some (obL A.parts) := fun h => by rw [hl q (lt_fresh (I.prt h))]; exact I.prt h
 refine ⟨?_, ?_, fun h => ?_, fun h => ?_, ?_⟩
 ·rw [look_setOb, if_neg (by omega), gthS_look (fun h => (I.q2 h).1.symm) (by omega), hl 1 f1]; exact I.res
 ·rw [look_setOb, if_pos rfl]
 ·have h' : A.parts ++ y.parts ≠ [] := by rw [← hp]; exact h
  rw [look_setOb, if_neg (gthN_ne (fun h => (I.q2 h).2) h' (by omega)), hp]
  exact gthS_list hq h'
 ·have h' : A.parts ++ y.parts ≠ [] := by rw [← hp]; exact h
  exact ⟨gthN_ne (fun h => (I.q2 h).1) h' (by omega), gthN_ne (fun h => (I.q2 h).2) h' (by omega)⟩
 ·refine shut_sg (gthS_shut (shut_set I.shut hx)) fun r hr z hz => ?_
  simp only [List.mem_singleton] at hr; subst hr
  rcases List.mem_cons.1 hz with rfl | hz
  ·by_cases n0 : A'.parts.length = 0
   ·rw [n0, grown_zero]; simp [V.within]
   ·have h' : A.parts ++ y.parts ≠ [] := by rw [← hp]; exact fun h => n0 (by rw [h]; rfl)
    rw [grown_pos n0, within_ref, look_setOb]
    split
    ·rfl
    ·rw [gthS_list hq h']; rfl
  ·exact tail_in _ _ _ _ _ z hz _
set_option maxHeartbeats 8000000 in
theorem weights_Bind {m : Ms} {k : Nat} {cp : List V} {g : Tr → Ms} {K J : Nat} (hK : 1 ≤ K) (hm : m.Ok K) (hl : m.parts.length ≤ 1000) (hb : K ≤ 100000) (he : Elts cp)
 (hg : ∀ p ∈ normP m.parts, CallD Tryz.prog k (.agg p.v.cells :: cp) (· = (g p.v).v))
 (hs : ∀ p ∈ normP m.parts, CallD Tryz.prog F.weights_Scale [(g p.v).v, p.w.v] (· = (normM (sclM (g p.v) p.w.q)).v) ∧ (normM (sclM (g p.v) p.w.q)).Ok (2 ^ 31) ∧ (g p.v).parts.length ≤ 1000)
 (hA : ∀ i, (accB m g ((normP m.parts).take i)).Ok (2 ^ 31) ∧ (accB m g ((normP m.parts).take i)).parts.length ≤ 1000000) (hJ : 1 ≤ J) (hP : ∀ p ∈ (accB m g (normP m.parts)).parts, p.w.Ok J) (hJb : 1 + (accB m g (normP m.parts)).parts.length * (J + 1) ≤ 2 ^ 31) :
 CallD Tryz.prog F.weights_Bind [m.v, .clo k cp] (· = (normM (accB m g (normP m.parts))).v) := by
 have p1 : m.parts.length * (K + 1) ≤ 1000 * 100001 := Nat.mul_le_mul hl (by omega)
 refine callD_by F.weights_Bind_ok ?_
 unfold F.weights_Bind_c
 simp [setOb, List.filter_cons, msC, tailC]
 refine callK_of (weights_comeA hK (by omega) hm (by omega) (by omega)) (by simp [msC, tailC]) ?_
 simp [setOb, List.filter_cons, msC, tailC]
 have okL : ∀ p ∈ normP m.parts, p.v.Ok := fun p hp => by
  obtain ⟨x, hx, e⟩ := normP_vals hp
  rw [← e]; exact (hm.parts x hx).1
 have hL : (normM m).parts = normP m.parts := rfl
 have ll : (normP m.parts).length ≤ 1000 := Nat.le_trans (normP_len _) hl
 rw [hL]
 have eA : accB m g ((normP m.parts).take 0) = ⟨[], (normM m).rf, (normM m).lo, (normM m).f0, (normM m).f1, (normM m).f2⟩ := by
  simp [accB, sumBy, normM, Rat.add_zero]
 generalize hLe : normP m.parts = L at *
 have fin : accB m g (L.take L.length) = accB m g L := by rw [List.take_length]
 refine wm_loop (fun t : Nat × Nat × Sto => (bindL k cp L t.1, t.2.2)) (fun t => t.1 ≤ L.length ∧ BI (accB m g (L.take t.1)) t.2.1 t.2.2) (fun t => L.length - t.1)
  (0, 0, [(2, ⟨.own, 16, [.nils :: tailC (normM m).rf (normM m).lo (normM m).f0 (normM m).f1 (normM m).f2]⟩), (1, ⟨.own, 16, [zero16]⟩)]) ?_ ?_ ?_
 ·refine ⟨Nat.zero_le _, ?_⟩
  rw [eA]
  exact ⟨by simp [E.look], by simp [E.look, grown_zero], fun h => (h rfl).elim, fun h => (h rfl).elim, shut_cons (shut_cons shut0 (plain_row (by simp [zero16, V.within]))) (plain_row (by
   intro y hy f
   simp only [List.mem_cons] at hy
   rcases hy with rfl | hy
   ·simp [V.within]
   ·exact tail_in _ _ _ _ _ y hy f))⟩
 ·unfold bindL
  refine weak_gen ?_ ?_ (by simp) ?_ ?_
  ·repeat (first | exact sub_empty | refine sub_set (by simp) ?_)
  ·intro o x ho
   simp only [E.look, tailC, zero16] at ho ⊢
   split at ho
   ·rename_i e; subst e; simpa using ho
   split at ho
   ·rename_i e; subst e; simpa using ho
   ·simp at ho
  ·repeat (first | exact sin_empty | refine sin_set (by first | (simp [E.look]; done) | exact he.within _ _) ?_)
  ·exact shut_cons (shut_cons shut0 (plain_row (by simp [zero16, V.within]))) (plain_row (by
   intro y hy f
   simp only [List.mem_cons] at hy
   rcases hy with rfl | hy
   ·simp [V.within]
   ·exact tail_in _ _ _ _ _ y hy f))
 rintro ⟨i, q, τ⟩ ⟨hi, I⟩
 dsimp only at hi I
 have f1 := lt_fresh I.res
 have f2 := lt_fresh I.out
 unfold bindL
 by_cases h1 : i < L.length
 ·have hmem := List.getElem_mem h1
  have tk : List.take 6 (partC L[i]) = partC L[i] := by simp
  have ec3 : List.take 3 (partC L[i]) = L[i].v.cells := by unfold partC; exact List.take_left' (by simp)
  have ec6 : List.drop 3 (partC L[i]) = L[i].w.c := by unfold partC; exact List.drop_left' (by simp)
  have hout := I.out
  have n2 : ¬ (2 : Nat) = fresh τ := by omega
  have l15 : ∀ {a b c d e : Raw}, (tailC a b c d e).length = 15 := by simp [tailC]
  obtain ⟨s1, s2, s3⟩ := hs _ hmem
  have hgc := hg _ hmem
  have t15 : ∀ {a b c d e : Raw}, List.take 15 (tailC a b c d e) = tailC a b c d e := by simp [tailC]
  have d15 : ∀ {a b c d e : Raw}, List.drop 15 (tailC a b c d e) = [] := by simp [tailC]
  simp [h1, tk, ec3, ec6, hout, n2, l15, t15, setOb2, getOb]
  refine rdK_dyn hgc (toPs_call he _ _) ?_
  rw [behindP_call he]
  simp [tk, ec3, ec6, getOb]
  refine callFK_of s1 (by simp [toD_msV, toD_rawc, raw_v]) ?_
  have r0 : ∀ (σ : Sto) (n : Nat), (msC (g L[i].v)).flatMap (rch σ n) = [] := fun σ n => rch_msV σ n _
  simp [r0, rchs, E.deep]
  have gok := (hA i).1
  have gth := weights_gather (σ := setOb τ (fresh τ) ⟨.own, 6, [partC L[i]]⟩) (G := (accB m g (L.take i)).parts) (q := q) (y := normM (sclM (g L[i].v) L[i].w.q)) (a := (accB m g (L.take i)).rf) (b := (accB m g (L.take i)).lo) (c := (accB m g (L.take i)).f0) (d := (accB m g (L.take i)).f1) (e := (accB m g (L.take i)).f2)
   (shut_set I.shut (plain_row fun y hy f => partC_inner _ y hy f)) (fun h => by rw [look_setOb, if_neg (by have := lt_fresh (I.prt h); omega)]; exact I.prt h) (hA i).2 (Nat.le_trans (normM_len _) (by rw [sclM_len]; omega)) gok.rf gok.lo gok.f0 gok.f1 gok.f2 s2
  obtain ⟨e1, e2, e3, e4, e5⟩ := accB_q (m := m) (g := g) h1
  have ep := accB_parts (m := m) (g := g) h1
  rw [e1, e2, e3, e4, e5, ← ep] at gth
  have st := I.step (y := normM (sclM (g L[i].v) L[i].w.q)) (A' := accB m g (L.take (i + 1))) (x := ⟨.own, 6, [partC L[i]]⟩) (plain_row fun y hy f => partC_inner _ y hy f) ep
  have g2 : E.look (gthS (setOb τ (fresh τ) ⟨.own, 6, [partC L[i]]⟩) q (accB m g (L.take i)).parts (normM (sclM (g L[i].v) L[i].w.q)).parts) 2 = some ⟨.own, 16, [grown q (accB m g (L.take i)).parts.length :: tailC (accB m g (L.take i)).rf (accB m g (L.take i)).lo (accB m g (L.take i)).f0 (accB m g (L.take i)).f1 (accB m g (L.take i)).f2]⟩ := by
   rw [gthS_look (fun h => (I.q2 h).2.symm) (by rw [fresh_so]; omega), look_setOb, if_neg n2]; exact hout
  refine callXK_X gth ?_
  simp [g2, l15, d15, getOb]
  rw [wrap64 (by omega) (by omega)]
  refine ⟨(i + 1, _, _), ⟨h1, st⟩, by dsimp only; omega, st.weak he ?_⟩
  unfold bindL
  repeat (first | exact sub_empty | refine sub_set (by simp) ?_)
 ·have hil : i = L.length := by omega
  subst hil
  have hout := I.out
  have hres := I.res
  have l15 : ∀ {a b c d e : Raw}, (tailC a b c d e).length = 15 := by simp [tailC]
  have t15 : ∀ {a b c d e : Raw}, List.take 15 (tailC a b c d e) = tailC a b c d e := by simp [tailC]
  have d15 : ∀ {a b c d e : Raw}, List.drop 15 (tailC a b c d e) = [] := by simp [tailC]
  simp [hout, l15, t15, getOb]
  have okE := (hA L.length).1
  rw [fin] at okE
  have come := weights_comeB (m := accB m g L) hJ (fun p hp => ⟨(okE.parts p hp).1, hP p hp⟩) okE hJb (by have := (hA L.length).2; rwa [fin] at this)
  rw [fin] at I
  have hprt := I.prt
  have hq2 := I.q2
  generalize accB m g L = A at *
  have e11 : ∀ {a b c d e : Raw}, mapO (toD τ 11) (tailC a b c d e) = some (tailC a b c d e) := by simp [tailC]
  have hTD : toD τ 11 (grown q A.parts.length) = some (pl A.parts) := toD_grown (k := 10) (st := .own) (es := 6) (fun h => hprt (fun e => h (by rw [e]; rfl))) (by simp) (by simp) (by simp) (fun r hr => by obtain ⟨p, _, rfl⟩ := List.mem_map.1 hr; exact toD_partC _ _ _)
  refine callK_of come ?_ ?_
  ·simp [e11, hTD, msC]
  have hrr : rch τ 11 (grown q A.parts.length) = if A.parts = [] then [] else [q] := by
   by_cases n0 : A.parts = []
   ·rw [if_pos n0, n0]; rfl
   ·rw [if_neg n0, grown_pos (fun h => n0 (List.length_eq_zero_iff.1 h))]
    exact rch_flatM (k := 10) (st := .own) (es := 6) (l := A.parts.map partC) (by simp [getOb, hprt n0]) (by simp) (fun r hr => by obtain ⟨p, _, rfl⟩ := List.mem_map.1 hr; exact rch_partM _ _ _)
  have rt : ∀ {a b c d e : Raw}, (tailC a b c d e).flatMap (rch τ 11) = [] := by simp [tailC]
  have l1 : E.look (frz τ (if A.parts = [] then [] else [q])) 1 = some ⟨.own, 16, [zero16]⟩ := by
   rw [look_frz, hres]
   by_cases n0 : A.parts = []
   ·simp [n0]
   ·have := (hq2 n0).1
    simp [n0, Ne.symm this]
  have n16 : (msC (normM A)).length = 16 := by simp [msC, tailC]
  have t16 : List.take 16 (msC (normM A)) = msC (normM A) := by simp [msC, tailC]
  simp [rchs, E.deep, hrr, rt, Ms.v, l1, zero16, n16, t16, toD_msV]
end Go.Proofs.YtmjgehbpcchjpaaGreatDoor
