import Derived.Test.YtmjgehbpcchjpaaGreatDoorHR
namespace Go.Proofs.YtmjgehbpcchjpaaGreatDoor.F
open Go Go.Proofs Go.Proofs.YtmjgehbpcchjpaaGreatDoor.E Go.Proofs.YtmjgehbpcchjpaaGreatDoor.Q
abbrev weights_gather : Nat := 127
def weights_gather_c : MFn := ⟨41,(.seq (r [o 2 (.box (.t 0)),o 3 (.box (.t 1)),o 4 (.alloc zM)] [2,3,4]) (.seq (r [o 6 (.fA 0 (.t 2)),o 7 (.ld none (.t 6)),o 8 (.fA 0 (.t 3)),o 9 (.ld none (.t 8)),o 10 (.app 6 96 (.t 7) (.t 9)),o 11 (.fA 0 (.t 2)),z (.st 1 (.t 11) (.t 10))] [2,3,4]) (.seq (r [o 12 (.fA 1 (.t 2)),o 13 (.ld (some 3) (.t 12)),o 14 (.fA 1 (.t 3)),o 15 (.ld (some 3) (.t 14)),o 16 (.callF 40 [(.t 13),(.t 15)]),o 17 (.fA 4 (.t 2)),o 18 (.ld (some 3) (.t 17)),o 19 (.fA 4 (.t 3)),o 20 (.ld (some 3) (.t 19)),o 21 (.callF 40 [(.t 18),(.t 20)]),o 22 (.fA 1 (.t 2)),z (.st 3 (.t 22) (.t 16)),o 23 (.fA 4 (.t 2)),z (.st 3 (.t 23) (.t 21))] [2,3,4]) (.seq (.seq (r [o 24 (.mv (i 0))] [2,3,4,24]) (.block 0 (.loop (.seq (r [o 25 (.bin .lss (.t 24) (i 3))] [2,3,4,24,25]) (.seq (.cond (.t 25) .skip (.exit 0)) (.seq (.block 1 (.seq (r [o 26 (.mv (.t 24)),o 5 (.mv (.t 26))] [2,3,4,5,24]) (r [o 27 (.mv (.t 5)),o 28 (.mv (.t 5)),o 29 (.fA 7 (.t 2)),o 30 (.ixArr 3 3 (.t 29) (.t 28)),o 31 (.ld (some 3) (.t 30)),o 32 (.mv (.t 5)),o 33 (.fA 7 (.t 3)),o 34 (.ixArr 3 3 (.t 33) (.t 32)),o 35 (.ld (some 3) (.t 34)),o 36 (.callF 40 [(.t 31),(.t 35)]),o 37 (.fA 7 (.t 2)),o 38 (.ixArr 3 3 (.t 37) (.t 27)),z (.st 3 (.t 38) (.t 36))] [2,3,4,24]))) (r [o 39 (.bin .add (.t 24) (i 1)),o 24 (.mv (.t 39))] [2,3,4,24]))))))) (.seq (r [o 40 (.ld (some 16) (.t 2)),z (.st 16 (.t 4) (.t 40))] [4]) .ret))))),[.cell 4 (some 16)]⟩
theorem weights_gather_ok : cFn Tryz.prog (kps [[2,3,4],[2,3,4],[2,3,4],[2,3,4,24],[2,3,4,24,25],[2,3,4,5,24],[2,3,4,24],[2,3,4,24],[4]]) [] 127 = some weights_gather_c := by kernel_rfl
abbrev weights_Bind : Nat := 119
def weights_Bind_c : MFn := ⟨31,(.seq (r [o 2 (.box (.t 0)),o 4 (.alloc zM)] [1,2,4]) (.seq (r [o 8 (.ld (some 16) (.t 2)),o 9 (.call 128 [(.t 8)]),z (.st 16 (.t 2) (.t 9))] [1,2,4]) (.seq (r [o 10 (.ld (some 16) (.t 2)),o 5 (.alloc zM),z (.st 16 (.t 5) (.t 10))] [1,2,4,5]) (.seq (r [o 11 (.fA 0 (.t 5)),z (.st 1 (.t 11) (.c .nils))] [1,2,4,5]) (.seq (.seq (r [o 12 (.fA 0 (.t 2)),o 13 (.ld none (.t 12)),o 14 (.lenS (.t 13)),o 15 (.mv (i 0))] [1,4,5,13,14,15]) (.block 0 (.loop (.seq (r [o 16 (.bin .lss (.t 15) (.t 14))] [1,4,5,13,14,15,16]) (.seq (.cond (.t 16) .skip (.exit 0)) (.seq (.block 1 (.seq (r [o 17 (.ixA 6 (.t 13) (.t 15)),o 18 (.ld (some 6) (.t 17)),o 7 (.alloc zP),z (.st 6 (.t 7) (.t 18))] [1,4,5,7,13,14,15]) (r [o 19 (.ld (some 16) (.t 5)),o 20 (.mv (.t 1)),o 21 (.fA 0 (.t 7)),o 22 (.ld (some 3) (.t 21)),o 23 (.rd2 .dyn [(.t 20),(.t 22)]),o 24 (.fA 3 (.t 7)),o 25 (.ld (some 3) (.t 24)),o 26 (.callF 83 [(.t 23),(.t 25)]),o 27 (.callXF 127 [(.t 19),(.t 26)]),z (.st 16 (.t 5) (.t 27))] [1,4,5,13,14,15]))) (r [o 28 (.bin .add (.t 15) (i 1)),o 15 (.mv (.t 28))] [1,4,5,13,14,15]))))))) (.seq (r [o 29 (.ld (some 16) (.t 5)),o 30 (.call 128 [(.t 29)]),z (.st 16 (.t 4) (.t 30))] [4]) .ret)))))),[.cell 4 (some 16)]⟩
theorem weights_Bind_ok : cFn Tryz.prog (kps [[1,2,4],[1,2,4],[1,2,4,5],[1,2,4,5],[1,4,5,13,14,15],[1,4,5,13,14,15,16],[1,4,5,7,13,14,15],[1,4,5,13,14,15],[1,4,5,13,14,15],[4]]) [1280007] 119 = some weights_Bind_c := by kernel_rfl
end Go.Proofs.YtmjgehbpcchjpaaGreatDoor.F

namespace Go.Proofs.YtmjgehbpcchjpaaGreatDoor
open Go Go.Proofs Go.Proofs.YtmjgehbpcchjpaaGreatDoor.E
set_option linter.unusedSimpArgs false
set_option linter.unusedVariables false
def iS (σ : Sto) (q : Nat) (B : List Part) : Nat := if B = [] then q else fresh σ + 3
def ee (σ : Sto) (q : Nat) (G B : List Part) : Sto := if B = [] then σ else if G = [] then ag σ (fresh σ + 3) (obL B) else ag (ag σ q ⟨.dead, 6, []⟩) (fresh σ + 3) (obL (G ++ B))
def qt (a b c d e c' d' e' : Raw) (g : Nat) : List V := am a b (if g ≤ 0 then c else c') (if g ≤ 1 then d else d') (if g ≤ 2 then e else e')
def apN (X : Sto) (q : Nat) (B : List Part) : Nat := if B = [] then q else fresh X
def apS (X : Sto) (q : Nat) (G B : List Part) : Sto := if B = [] then X else if G = [] then ag X (fresh X) (obL B) else ag (ag X q ⟨.dead, 6, []⟩) (fresh X) (obL (G ++ B))
theorem r7 {X : Sto} {q : Nat} {G B : List Part} (hG : G ≠ [] → E.look X q = some (obL G)) (lG : G.length ≤ 1000000) (lB : B.length ≤ 1000000) : fR X 6 96 (B.map aA) (bl q G.length) = some (bl (apN X q B) (G ++ B).length, apS X q G B) := by
 cases B with
 | nil =>
   have e : apN X q [] = q ∧ apS X q G [] = X := ⟨if_pos rfl, if_pos rfl⟩
   rw [e.1, e.2, List.append_nil]
   by_cases g0 : G.length = 0
   ·rw [g0]; rfl
   ·rw [ax g0]; rfl
 | cons p B =>
   have e : apN X q (p :: B) = fresh X := if_neg (by simp)
   rw [e]
   simp at lB
   by_cases g0 : G = []
   ·subst g0
    simp (disch := omega) [fR, aF, apS, obL, if_pos]
    rw [ax (by simp)]
   ·have g1 : G.length ≠ 0 := fun h => g0 (List.length_eq_zero_iff.1 h)
    rw [ax g1]
    have hq := hG g0
    simp (disch := omega) [fR, hq, aM, apS, g0, obL, if_pos]
    rw [ax (by omega)]
theorem elems_pl {X : Sto} {B : List Part} : cT X 6 (pl B) = some (B.map aA) := by
 cases B with
 | nil => simp [cT]
 | cons p B =>
   have hd : pl (p :: B) = .dat (aA p :: B.map aA) := rfl
   rw [hd]
   simp [cT]
set_option maxHeartbeats 8000000 in
theorem weights_gather {σ : Sto} {G : List Part} {q : Nat} {a b c d e : Raw} {y : Ms} (hs : bV σ) (hG : G ≠ [] → E.look σ q = some (obL G)) (lG : G.length ≤ 1000000) (ly : y.parts.length ≤ 1000000)
 (ha : a.Ok (2 ^ 31)) (hb : b.Ok (2 ^ 31)) (hc : c.Ok (2 ^ 31)) (hd : d.Ok (2 ^ 31)) (he : e.Ok (2 ^ 31)) (hy : y.Ok (2 ^ 31)) :
 CallX Tryz.prog F.weights_gather [.agg (bl q G.length :: am a b c d e), y.v] σ (fun v s => v = .agg (bl (iS σ q y.parts) (G ++ y.parts).length :: am (ao (a.q + y.rf.q)) (ao (b.q + y.lo.q)) (ao (c.q + y.f0.q)) (ao (d.q + y.f1.q)) (ao (e.q + y.f2.q))) ∧ s = ee σ q G y.parts) := by
 refine cF F.weights_gather_ok ?_
 unfold F.weights_gather_c
 generalize hf : fresh σ = f
 have n0 : E.look σ f = none := bH σ _ (by omega)
 have n1 : E.look σ (f + 1) = none := bH σ _ (by omega)
 have n2 : E.look σ (f + 2) = none := bH σ _ (by omega)
 have n3 : E.look σ (f + 3) = none := bH σ _ (by omega)
 have l16 : (msC y).length = 16 := by simp [msC, am]
 have l15 : ∀ {a b c d e : Raw}, (am a b c d e).length = 15 := by simp [am]
 simp (disch := omega) [-ab, hf, bc, l16, l15, Nat.max_eq_left, Nat.max_eq_right]
 have hGX := hG
 generalize hX : ag (ag (ag σ f ⟨.own, 16, [bl q G.length :: am a b c d e]⟩) (f + 1) ⟨.own, 16, [msC y]⟩) (f + 1 + 1) ⟨.own, 16, [[.nils, .bool false, .nils, .nils, .bool false, .nils, .nils, .bool false, .nils, .nils, .bool false, .nils, .nils, .bool false, .nils, .nils]]⟩ = X
 have hX0 : E.look X f = some ⟨.own, 16, [bl q G.length :: am a b c d e]⟩ := by rw [← hX, ab, if_neg (by omega), ab, if_neg (by omega), ab, if_pos rfl]
 have hX1 : E.look X (f + 1) = some ⟨.own, 16, [msC y]⟩ := by rw [← hX, ab, if_neg (by omega), ab, if_pos rfl]
 have hX2 : E.look X (f + 1 + 1) = some ⟨.own, 16, [az]⟩ := by rw [← hX, ab, if_pos rfl]; rfl
 have hXo : ∀ o, o < f → E.look X o = E.look σ o := fun o ho => by rw [← hX, ab, if_neg (by omega), ab, if_neg (by omega), ab, if_neg (by omega)]
 have hXf : fresh X = f + 3 := by rw [← hX, bc, bc, bc, hf]; omega
 have hq : G ≠ [] → q < f := fun h => by rw [← hf]; exact bt (hG h)
 have hap := r7 (X := X) (B := y.parts) (fun h => by rw [hXo q (hq h)]; exact hG h) lG ly
 have hYo : ∀ o, o ≠ q → o ≠ f + 3 → E.look (apS X q G y.parts) o = E.look X o := fun o h1 h2 => by
  unfold apS
  rw [hXf]
  split
  ·rfl
  split
  ·rw [ab, if_neg h2]
  ·rw [ab, if_neg h2, ab, if_neg h1]
 have hYq : G = [] → ∀ o, o ≠ f + 3 → E.look (apS X q G y.parts) o = E.look X o := fun h o h2 => by
  unfold apS
  rw [hXf]
  by_cases hB : y.parts = []
  ·rw [if_pos hB]
  ·rw [if_neg hB, if_pos h, ab, if_neg h2]
 have hYx : ∀ o, f ≤ o → o ≠ f + 3 → E.look (apS X q G y.parts) o = E.look X o := fun o h1 h2 => by
  by_cases g0 : G = []
  ·exact hYq g0 o h2
  ·exact hYo o (by have := hq g0; omega) h2
 have hY0 := (hYx f (by omega) (by omega)).trans hX0
 have hY1 := (hYx (f + 1) (by omega) (by omega)).trans hX1
 have hY2 := (hYx (f + 1 + 1) (by omega) (by omega)).trans hX2
 have hsX : bV X := by
  rw [← hX]
  refine aE (aE (eW hs fun r hr z hz => ?_) (av (bS y))) (av (by simp [V.within]))
  simp only [List.mem_singleton] at hr; subst hr
  rcases List.mem_cons.1 hz with rfl | hz
  ·by_cases g0 : G.length = 0
   ·rw [g0, aF]; simp [V.within]
   ·rw [ax g0, bA, ab]
    split
    ·rfl
    ·rw [hG fun h => g0 (by rw [h]; rfl)]; rfl
  ·exact bL _ _ _ _ _ z hz _
 have hsY : bV (apS X q G y.parts) := by
  unfold apS
  split
  ·exact hsX
  split
  ·exact aE hsX (aW _)
  ·exact aE (aE hsX (fun r hr => by simp at hr)) (aW _)
 have hLw : (bl (apN X q y.parts) (G.length + y.parts.length)).within (fun o => (E.look (apS X q G y.parts) o).isSome) = true := by
  by_cases hB : y.parts = []
  ·have e1 : apN X q y.parts = q := if_pos hB
   have e2 : apS X q G y.parts = X := if_pos hB
   rw [e1, e2, hB]
   by_cases g0 : G.length = 0
   ·rw [g0]; simp [aF, V.within]
   ·have g1 : G ≠ [] := fun h => g0 (by rw [h]; rfl)
    rw [ax (by simpa using g1), bA, hXo q (hq g1), hG g1]; rfl
  ·have b0 : y.parts.length ≠ 0 := fun h => hB (List.length_eq_zero_iff.1 h)
   have e1 : apN X q y.parts = fresh X := if_neg hB
   rw [e1, ax (by omega), bA]
   unfold apS
   rw [if_neg hB]
   split
   ·rw [ab, if_pos rfl]; rfl
   ·rw [ab, if_pos rfl]; rfl
 have hLc : bl (apN X q y.parts) (G.length + y.parts.length) = .nils ∨ ∃ o n, bl (apN X q y.parts) (G.length + y.parts.length) = .ref o 0 n := by
  by_cases h : G.length + y.parts.length = 0
  ·rw [h]; exact .inl rfl
  ·rw [ax h]; exact .inr ⟨_, _, rfl⟩
 have hN : iS σ q y.parts = apN X q y.parts := by unfold iS apN; rw [hXf, hf]
 have hHas : Has (ee σ q G y.parts) (apS X q G y.parts) := fun o x ho => by
  unfold ee at ho
  unfold apS
  rw [hf] at ho
  rw [hXf]
  have old : E.look σ o = some x → o < f := fun h => by rw [← hf]; exact bt h
  by_cases hB : y.parts = []
  ·rw [if_pos hB] at ho ⊢
   rw [hXo o (old ho)]; exact ho
  ·rw [if_neg hB] at ho ⊢
   by_cases g0 : G = []
   ·rw [if_pos g0, ab] at ho ⊢
    split at ho
    ·rename_i e; rw [if_pos e]; exact ho
    ·rename_i e; rw [if_neg e, hXo o (old ho)]; exact ho
   ·rw [if_neg g0, ab, ab] at ho ⊢
    split at ho
    ·rename_i e; rw [if_pos e]; exact ho
    ·rename_i e
     rw [if_neg e]
     split at ho
     ·rename_i e2; rw [if_pos e2]; exact ho
     ·rename_i e2; rw [if_neg e2, hXo o (old ho)]; exact ho
 have hHs : bV (ee σ q G y.parts) := by
  unfold ee
  split
  ·exact hs
  split
  ·exact aE hs (aW _)
  ·exact aE (aE hs (fun r hr => by simp at hr)) (aW _)
 have hHk : ∀ o, (E.look σ o).isSome = true → (E.look (ee σ q G y.parts) o).isSome = true := fun o ho => by
  unfold ee
  split
  ·exact ho
  split
  ·rw [ab]; split
   ·rfl
   ·exact ho
  ·rw [ab, ab]; split
   ·rfl
   split
   ·rfl
   ·exact ho
 have hHn : ∀ o, o = f ∨ o = f + 1 + 1 → E.look (ee σ q G y.parts) o = none := fun o ho => by
  have n4 : E.look σ o = none := by
   rcases ho with h | h
   ·rw [h]; exact n0
   ·rw [h]; exact n2
  unfold ee
  rw [hf]
  split
  ·exact n4
  split
  ·rw [ab, if_neg (by omega)]; exact n4
  ·rename_i g0
   have := hq g0
   rw [ab, if_neg (by omega), ab, if_neg (by omega)]; exact n4
 have hLg : (bl (apN X q y.parts) (G.length + y.parts.length)).within (fun o => (E.look (ee σ q G y.parts) o).isSome) = true := by
  by_cases hB : y.parts = []
  ·have e1 : apN X q y.parts = q := if_pos hB
   have e2 : ee σ q G y.parts = σ := if_pos hB
   rw [e1, e2, hB]
   by_cases g0 : G.length = 0
   ·rw [g0]; simp [aF, V.within]
   ·have g1 : G ≠ [] := fun h => g0 (by rw [h]; rfl)
    rw [ax (by simpa using g1), bA, hG g1]; rfl
  ·have b0 : y.parts.length ≠ 0 := fun h => hB (List.length_eq_zero_iff.1 h)
   have e1 : apN X q y.parts = f + 3 := by rw [← hXf]; exact if_neg hB
   rw [e1, ax (by omega), bA]
   unfold ee
   rw [if_neg hB, hf]
   split
   ·rw [ab, if_pos rfl]; rfl
   ·rw [ab, if_pos rfl]; rfl
 simp only [am, msC, az] at hX0 hX1 hX2 hY0 hY1 hY2
 simp [-fR, -cT, hX0, hX1, hap, elems_pl]
 rw [hN]
 clear hap hN hYo hYq hYx
 generalize bl (apN X q y.parts) (G.length + y.parts.length) = L at *
 generalize hY : apS X q G y.parts = Y at *
 have x1 : ¬ f = f + 1 := by omega
 have x2 : ¬ f + 1 = f := by omega
 have x3 : ¬ f + 1 + 1 = f := by omega
 have x4 : ¬ f = f + 1 + 1 := by omega
 have x5 : ¬ f + 1 + 1 = f + 1 := by omega
 have x6 : ¬ f + 1 = f + 1 + 1 := by omega
 let A := ao (a.q + y.rf.q)
 let B := ao (b.q + y.lo.q)
 let C := ao (c.q + y.f0.q)
 let D := ao (d.q + y.f1.q)
 let H := ao (e.q + y.f2.q)
 obtain ⟨Z, hZ⟩ : ∃ Z : Nat → Sto, ∀ g, Z g = ag Y f ⟨.own, 16, [L :: qt A B c d e C D H g]⟩ := ⟨_, fun _ => rfl⟩
 have hZs : ∀ g, bV (Z g) := fun g => hZ g ▸ eW hsY fun r hr z hz => by
  simp only [List.mem_singleton] at hr; subst hr
  rcases List.mem_cons.1 hz with rfl | hz
  ·exact jx hLw
  ·exact bL _ _ _ _ _ z hz _
 have hsome : ∀ {o : Nat} {x : Ob}, E.look Y o = some x → (E.look Y o).isSome = true := fun h => by rw [h]; rfl
 have s0 := hsome hY0
 have s1 := hsome hY1
 have s2 := hsome hY2
 have hZk : ∀ g, ∀ k ∈ σ.map (·.1), (E.look (Z g) k).isSome = true := fun g => hZ g ▸ aY fun k hk => by
  have := hHk k (aS k hk)
  obtain ⟨x, hx⟩ := Option.isSome_iff_exists.1 this
  rw [hHas k x hx]; rfl
 have wp : ∀ g o, (E.look Y o).isSome = true → (E.look (Z g) o).isSome = true := fun g o ho => by
  rw [hZ, ab]; split
  ·rfl
  ·exact ho
 have hW : ∀ (S : Sl) (σ' : Sto) (g : Nat), Sub ((((Sl.empty.set 24 (.int .i64 g)).set 4 (.ptr (f + 1 + 1) 0 0)).set 3 (.ptr (f + 1) 0 0)).set 2 (.ptr f 0 0)) S → σ' = Z g → Weak (σ.map (·.1)) ((((Sl.empty.set 24 (.int .i64 g)).set 4 (.ptr (f + 1 + 1) 0 0)).set 3 (.ptr (f + 1) 0 0)).set 2 (.ptr f 0 0)) (Z g) S σ' := fun S σ' g h1 h2 => by
  subst h2
  refine aO h1 (Has.refl _) (hZk g) ?_ (hZs g)
  repeat (first | exact ac | refine ah (by first | (simp; done) | (rw [ch]; first | exact wp g _ s0 | exact wp g _ s1 | exact wp g _ s2)) ?_)
 rcases hLc with hL | ⟨o', n', hL⟩
 all_goals
  simp [hL, hY0, hY1, hY2, aM, x1, x2, x3, x4, x5, x6]
  refine ak (ratio_Add ha hy.rf) (by simp [Raw.v]) ?_
  simp [bb, Raw.v, hY0, hY1, hY2, aM, x1, x2, x3, x4, x5, x6]
  refine ak (ratio_Add hb hy.lo) (by simp [Raw.v]) ?_
  simp [bb, Raw.v, hY0, hY1, hY2, aM, x1, x2, x3, x4, x5, x6, cU]
  refine aH (fun g : Nat => ((((Sl.empty.set 24 (.int .i64 g)).set 4 (.ptr (f + 1 + 1) 0 0)).set 3 (.ptr (f + 1) 0 0)).set 2 (.ptr f 0 0), Z g)) (fun g => g ≤ 3) (fun g => 3 - g) 0 (by omega) ?_ ?_
  ·refine hW _ _ 0 ?_ (by rw [hZ, hL]; rfl)
   repeat (first | exact af | refine aj (by simp) ?_)
  intro g hg
  by_cases hg3 : g < 3
  ·rcases (show g = 0 ∨ g = 1 ∨ g = 2 by omega) with rfl | rfl | rfl
   ·simp [hZ 0, hL, qt, am, hY1, hY2, aM, x1, x2, x3, x4, x5, x6]
    refine ak (ratio_Add hc hy.f0) (by simp [Raw.v]) ?_
    simp [bb, Raw.v, hL, hY1, hY2, aM, x1, x2, x3, x4, x5, x6, cU]
    rw [ap (by omega) (by omega)]
    refine ⟨1, by omega, by dsimp only; omega, hW _ _ 1 ?_ (by rw [hZ, hL]; rfl)⟩
    repeat (first | exact af | refine aj (by simp) ?_)
   ·simp [hZ 1, hL, qt, am, hY1, hY2, aM, x1, x2, x3, x4, x5, x6]
    refine ak (ratio_Add hd hy.f1) (by simp [Raw.v]) ?_
    simp [bb, Raw.v, hL, hY1, hY2, aM, x1, x2, x3, x4, x5, x6, cU]
    rw [ap (by omega) (by omega)]
    refine ⟨2, by omega, by dsimp only; omega, hW _ _ 2 ?_ (by rw [hZ, hL]; rfl)⟩
    repeat (first | exact af | refine aj (by simp) ?_)
   ·simp [hZ 2, hL, qt, am, hY1, hY2, aM, x1, x2, x3, x4, x5, x6]
    refine ak (ratio_Add he hy.f2) (by simp [Raw.v]) ?_
    simp [bb, Raw.v, hL, hY1, hY2, aM, x1, x2, x3, x4, x5, x6, cU]
    rw [ap (by omega) (by omega)]
    refine ⟨3, by omega, by dsimp only; omega, hW _ _ 3 ?_ (by rw [hZ, hL]; rfl)⟩
    repeat (first | exact af | refine aj (by simp) ?_)
  have e3 : g = 3 := by omega
  subst e3
  simp [hZ 3, hL, qt, am, hY1, hY2, aM, x1, x2, x3, x4, x5, x6]
  refine bQ (r := .agg (L :: am A B C D H)) (l := [.agg (L :: am A B C D H)]) (σ1 := ee σ q G y.parts) (by simp) (by simp [hL, am]) rfl (fun o x ho => ?_) (fun k hk => hHk k (aS k hk)) hHs ?_ ⟨by rw [hL]; simp [am, A, B, C, D, H], rfl⟩
  ·have m1 : ¬ o = f := fun h => by rw [h, hHn f (.inl rfl)] at ho; simp at ho
   have m2 : ¬ o = f + 1 + 1 := fun h => by rw [h, hHn (f + 1 + 1) (.inr rfl)] at ho; simp at ho
   rw [ab, if_neg m2, ab, if_neg m1]
   exact hHas o x ho
  ·rw [ej, List.all_eq_true]
   intro z hz
   rcases List.mem_cons.1 hz with rfl | hz
   ·exact hLg
   ·exact bL _ _ _ _ _ z hz _
theorem fc {σ : Sto} {q o : Nat} {G B : List Part} (h : G ≠ [] → o ≠ q) (ho : o < fresh σ) : E.look (ee σ q G B) o = E.look σ o := by
 unfold ee
 split
 ·rfl
 split
 ·rw [ab, if_neg (by omega)]
 ·rename_i g0
  rw [ab, if_neg (by omega), ab, if_neg (h g0)]
theorem kH {σ : Sto} {q : Nat} {G B : List Part} (hs : bV σ) : bV (ee σ q G B) := by
 unfold ee
 split
 ·exact hs
 split
 ·exact aE hs (aW _)
 ·exact aE (aE hs (fun r hr => by simp at hr)) (aW _)
theorem fa {σ : Sto} {q : Nat} {G B : List Part} (hG : G ≠ [] → E.look σ q = some (obL G)) (hn : G ++ B ≠ []) : E.look (ee σ q G B) (iS σ q B) = some (obL (G ++ B)) := by
 unfold ee iS
 by_cases hB : B = []
 ·rw [if_pos hB, if_pos hB, hB, List.append_nil]
  exact hG (fun h => hn (by rw [h, hB]; rfl))
 ·rw [if_neg hB, if_neg hB]
  split
  ·rename_i g0; rw [ab, if_pos rfl, g0, List.nil_append]
  ·rw [ab, if_pos rfl]
theorem iE {σ : Sto} {q o : Nat} {G B : List Part} (h : G ≠ [] → q ≠ o) (hn : G ++ B ≠ []) (ho : o < fresh σ) : iS σ q B ≠ o := by
 unfold iS
 split
 ·rename_i hB; exact h (fun h => hn (by rw [h, hB]; rfl))
 ·omega
def Elts (l : List V) : Prop := ∀ y ∈ l, ∃ r, y = .elt r
theorem Elts.toPs {l : List V} (h : Elts l) (σ : Sto) : toPs σ l = some l := by
 induction l with
 | nil => rfl
 | cons a l ih =>
   obtain ⟨r, rfl⟩ := h a (by simp)
   have := ih fun y hy => h y (by simp [hy])
   simp only [E.toPs, this]
   rfl
theorem Elts.rchPs {l : List V} (h : Elts l) (σ : Sto) : rchPs σ l = [] := by
 unfold E.rchPs
 rw [List.flatMap_eq_nil_iff]
 intro y hy
 obtain ⟨r, rfl⟩ := h y hy
 rfl
theorem Elts.within {l : List V} (h : Elts l) (p : Nat → Bool) (f : Nat) : (V.clo f l).within p = true := by
 simp [V.within]
 intro y hy
 obtain ⟨r, rfl⟩ := h y hy
 simp [V.within]
theorem tc (σ : Sto) (n : Nat) (t : Tr) : bo (toP σ (n + 1)) t.cells = some t.cells := by
 cases t; rw [ct]; simp [bo, toP]
theorem rh (σ : Sto) (n : Nat) (t : Tr) : t.cells.flatMap (rchP σ (n + 1)) = [] := by
 cases t; rw [ct]; simp [rchP]
theorem tg {cp : List V} (he : Elts cp) (v : Tr) (σ : Sto) : toPs σ ([.agg v.cells] ++ cp) = some (.agg v.cells :: cp) := by
 have h := he.toPs σ
 have e : toP σ deep (.agg v.cells) = some (.agg v.cells) := by
  show (bo (toP σ 11) v.cells).map V.agg = _
  rw [tc]; rfl
 simp only [List.cons_append, List.nil_append, E.toPs, e, h]
theorem oD {cp : List V} (he : Elts cp) (v : Tr) (σ : Sto) (r : V) : bF σ ([.agg v.cells] ++ cp) r = σ := by
 have e : rchPs σ ([.agg v.cells] ++ cp) = [] := by
  have h := he.rchPs σ
  unfold E.rchPs at h ⊢
  rw [List.flatMap_append, h]
  show v.cells.flatMap (rchP σ 11) ++ [] ++ [] = []
  rw [rh]; rfl
 unfold bF
 rw [e, aN]
 split <;> rfl
theorem cP (σ : Sto) (n : Nat) (m : Ms) : bo (toD σ (n + 1)) (msC m) = some (msC m) := by simp [msC, am]
theorem gK (σ : Sto) (n : Nat) (m : Ms) : (msC m).flatMap (rch σ n) = [] := by simp [msC, am]
def aZ (m : Ms) (g : Tr → Ms) (L : List Part) : Ms :=
 ⟨(L.map fun p => aL (dm (g p.v).parts p.w.q)).flatten,
  ao (m.rf.q + cM (fun p => (g p.v).rf.q * p.w.q) L), ao (m.lo.q + cM (fun p => (g p.v).lo.q * p.w.q) L),
  ao (m.f0.q + cM (fun p => (g p.v).f0.q * p.w.q) L), ao (m.f1.q + cM (fun p => (g p.v).f1.q * p.w.q) L), ao (m.f2.q + cM (fun p => (g p.v).f2.q * p.w.q) L)⟩
theorem jc {m : Ms} {g : Tr → Ms} {L : List Part} {i : Nat} (h : i < L.length) : (aZ m g (L.take (i + 1))).parts = (aZ m g (L.take i)).parts ++ (aI (c9 (g L[i].v) L[i].w.q)).parts := by
 simp only [aZ]
 rw [List.take_succ_eq_append_getElem h, List.map_append, List.flatten_append]
 simp [aI, c9]
theorem qJ {m : Ms} {g : Tr → Ms} {L : List Part} {i : Nat} (h : i < L.length) :
 ao ((aZ m g (L.take i)).rf.q + (aI (c9 (g L[i].v) L[i].w.q)).rf.q) = (aZ m g (L.take (i + 1))).rf ∧
 ao ((aZ m g (L.take i)).lo.q + (aI (c9 (g L[i].v) L[i].w.q)).lo.q) = (aZ m g (L.take (i + 1))).lo ∧
 ao ((aZ m g (L.take i)).f0.q + (aI (c9 (g L[i].v) L[i].w.q)).f0.q) = (aZ m g (L.take (i + 1))).f0 ∧
 ao ((aZ m g (L.take i)).f1.q + (aI (c9 (g L[i].v) L[i].w.q)).f1.q) = (aZ m g (L.take (i + 1))).f1 ∧
 ao ((aZ m g (L.take i)).f2.q + (aI (c9 (g L[i].v) L[i].w.q)).f2.q) = (aZ m g (L.take (i + 1))).f2 := by
 have key : ∀ (x : Rat) (f : Part → Rat), ao ((ao (x + cM f (L.take i))).q + (ao (ao (f L[i])).q).q) = ao (x + cM f (L.take (i + 1))) := fun x f => by
  rw [ni h, be, be, be]
  congr 1
  grind
 exact ⟨key _ _, key _ _, key _ _, key _ _, key _ _⟩
structure BI (A : Ms) (q : Nat) (τ : Sto) : Prop where
 res : E.look τ 1 = some ⟨.own, 16, [az]⟩
 out : E.look τ 2 = some ⟨.own, 16, [bl q A.parts.length :: am A.rf A.lo A.f0 A.f1 A.f2]⟩
 prt : A.parts ≠ [] → E.look τ q = some (obL A.parts)
 q2 : A.parts ≠ [] → q ≠ 1 ∧ q ≠ 2
 shut : bV τ
def mq (k : Nat) (cp : List V) (L : List Part) (i : Nat) : Sl := (((((Sl.empty.set 15 (.int .i64 i)).set 14 (.int .i64 L.length)).set 13 (pl L)).set 5 (.ptr 2 0 0)).set 4 (.ptr 1 0 0)).set 1 (.clo k cp)
theorem BI.weak {A : Ms} {q k i : Nat} {τ : Sto} {cp : List V} {L : List Part} {S : Sl} (I : BI A q τ) (he : Elts cp) (h : Sub (mq k cp L i) S) : Weak [] (mq k cp L i) τ S τ := by
 refine aO h (Has.refl _) (by simp) ?_ I.shut
 unfold mq
 have s1 : (E.look τ 1).isSome = true := by rw [I.res]; rfl
 have s2 : (E.look τ 2).isSome = true := by rw [I.out]; rfl
 repeat (first | exact ac | refine ah (by first | (simp; done) | exact he.within _ _ | (rw [ch]; first | exact s1 | exact s2)) ?_)
theorem BI.step {A y A' : Ms} {q : Nat} {τ : Sto} {x : Ob} (I : BI A q τ) (hx : dV x.cells) (hp : A'.parts = A.parts ++ y.parts) :
 BI A' (iS (ag τ (fresh τ) x) q y.parts) (ag (ee (ag τ (fresh τ) x) q A.parts y.parts) 2 ⟨.own, 16, [bl (iS (ag τ (fresh τ) x) q y.parts) A'.parts.length :: am A'.rf A'.lo A'.f0 A'.f1 A'.f2]⟩) := by
 have f1 := bt I.res
 have f2 := bt I.out
 have ff : fresh (ag τ (fresh τ) x) = fresh τ + 1 := by rw [bc]; omega
 have hl : ∀ o, o < fresh τ → E.look (ag τ (fresh τ) x) o = E.look τ o := fun o ho => by rw [ab, if_neg (by omega)]
 have hq : A.parts ≠ [] → E.look (ag τ (fresh τ) x) q = some (obL A.parts) := fun h => by rw [hl q (bt (I.prt h))]; exact I.prt h
 refine ⟨?_, ?_, fun h => ?_, fun h => ?_, ?_⟩
 ·rw [ab, if_neg (by omega), fc (fun h => (I.q2 h).1.symm) (by omega), hl 1 f1]; exact I.res
 ·rw [ab, if_pos rfl]
 ·have h' : A.parts ++ y.parts ≠ [] := by rw [← hp]; exact h
  rw [ab, if_neg (iE (fun h => (I.q2 h).2) h' (by omega)), hp]
  exact fa hq h'
 ·have h' : A.parts ++ y.parts ≠ [] := by rw [← hp]; exact h
  exact ⟨iE (fun h => (I.q2 h).1) h' (by omega), iE (fun h => (I.q2 h).2) h' (by omega)⟩
 ·refine eW (kH (aE I.shut hx)) fun r hr z hz => ?_
  simp only [List.mem_singleton] at hr; subst hr
  rcases List.mem_cons.1 hz with rfl | hz
  ·by_cases n0 : A'.parts.length = 0
   ·rw [n0, aF]; simp [V.within]
   ·have h' : A.parts ++ y.parts ≠ [] := by rw [← hp]; exact fun h => n0 (by rw [h]; rfl)
    rw [ax n0, bA, ab]
    split
    ·rfl
    ·rw [fa hq h']; rfl
  ·exact bL _ _ _ _ _ z hz _
set_option maxHeartbeats 8000000 in
theorem weights_Bind {m : Ms} {k : Nat} {cp : List V} {g : Tr → Ms} {K J : Nat} (hK : 1 ≤ K) (hm : m.Ok K) (hl : m.parts.length ≤ 1000) (hb : K ≤ 100000) (he : Elts cp)
 (hg : ∀ p ∈ aL m.parts, CallD Tryz.prog k (.agg p.v.cells :: cp) (· = (g p.v).v))
 (hs : ∀ p ∈ aL m.parts, CallD Tryz.prog F.weights_Scale [(g p.v).v, p.w.v] (· = (aI (c9 (g p.v) p.w.q)).v) ∧ (aI (c9 (g p.v) p.w.q)).Ok (2 ^ 31) ∧ (g p.v).parts.length ≤ 1000)
 (hA : ∀ i, (aZ m g ((aL m.parts).take i)).Ok (2 ^ 31) ∧ (aZ m g ((aL m.parts).take i)).parts.length ≤ 1000000) (hJ : 1 ≤ J) (hP : ∀ p ∈ (aZ m g (aL m.parts)).parts, p.w.Ok J) (hJb : 1 + (aZ m g (aL m.parts)).parts.length * (J + 1) ≤ 2 ^ 31) :
 CallD Tryz.prog F.weights_Bind [m.v, .clo k cp] (· = (aI (aZ m g (aL m.parts))).v) := by
 have p1 : m.parts.length * (K + 1) ≤ 1000 * 100001 := Nat.mul_le_mul hl (by omega)
 refine aB F.weights_Bind_ok ?_
 unfold F.weights_Bind_c
 simp [ag, List.filter_cons, msC, am]
 refine ai (dj hK (by omega) hm (by omega) (by omega)) (by simp [msC, am]) ?_
 simp [ag, List.filter_cons, msC, am]
 have okL : ∀ p ∈ aL m.parts, p.v.Ok := fun p hp => by
  obtain ⟨x, hx, e⟩ := cf hp
  rw [← e]; exact (hm.parts x hx).1
 have hL : (aI m).parts = aL m.parts := rfl
 have ll : (aL m.parts).length ≤ 1000 := Nat.le_trans (dT _) hl
 rw [hL]
 have eA : aZ m g ((aL m.parts).take 0) = ⟨[], (aI m).rf, (aI m).lo, (aI m).f0, (aI m).f1, (aI m).f2⟩ := by
  simp [aZ, cM, aI, Rat.add_zero]
 generalize hLe : aL m.parts = L at *
 have fin : aZ m g (L.take L.length) = aZ m g L := by rw [List.take_length]
 refine aH (fun t : Nat × Nat × Sto => (mq k cp L t.1, t.2.2)) (fun t => t.1 ≤ L.length ∧ BI (aZ m g (L.take t.1)) t.2.1 t.2.2) (fun t => L.length - t.1)
  (0, 0, [(2, ⟨.own, 16, [.nils :: am (aI m).rf (aI m).lo (aI m).f0 (aI m).f1 (aI m).f2]⟩), (1, ⟨.own, 16, [az]⟩)]) ?_ ?_ ?_
 ·refine ⟨Nat.zero_le _, ?_⟩
  rw [eA]
  exact ⟨by simp [E.look], by simp [E.look, aF], fun h => (h rfl).elim, fun h => (h rfl).elim, aK (aK dU (av (by simp [az, V.within]))) (av (by
   intro y hy f
   simp only [List.mem_cons] at hy
   rcases hy with rfl | hy
   ·simp [V.within]
   ·exact bL _ _ _ _ _ y hy f))⟩
 ·unfold mq
  refine aO ?_ ?_ (by simp) ?_ ?_
  ·repeat (first | exact af | refine aj (by simp) ?_)
  ·intro o x ho
   simp only [E.look, am, az] at ho ⊢
   split at ho
   ·rename_i e; subst e; simpa using ho
   split at ho
   ·rename_i e; subst e; simpa using ho
   ·simp at ho
  ·repeat (first | exact ac | refine ah (by first | (simp [E.look]; done) | exact he.within _ _) ?_)
  ·exact aK (aK dU (av (by simp [az, V.within]))) (av (by
   intro y hy f
   simp only [List.mem_cons] at hy
   rcases hy with rfl | hy
   ·simp [V.within]
   ·exact bL _ _ _ _ _ y hy f))
 rintro ⟨i, q, τ⟩ ⟨hi, I⟩
 dsimp only at hi I
 have f1 := bt I.res
 have f2 := bt I.out
 unfold mq
 by_cases h1 : i < L.length
 ·have hmem := List.getElem_mem h1
  have tk : List.take 6 (aA L[i]) = aA L[i] := by simp
  have ec3 : List.take 3 (aA L[i]) = L[i].v.cells := by unfold aA; exact List.take_left' (by simp)
  have ec6 : List.drop 3 (aA L[i]) = L[i].w.c := by unfold aA; exact List.drop_left' (by simp)
  have hout := I.out
  have n2 : ¬ (2 : Nat) = fresh τ := by omega
  have l15 : ∀ {a b c d e : Raw}, (am a b c d e).length = 15 := by simp [am]
  obtain ⟨s1, s2, s3⟩ := hs _ hmem
  have hgc := hg _ hmem
  have t15 : ∀ {a b c d e : Raw}, List.take 15 (am a b c d e) = am a b c d e := by simp [am]
  have d15 : ∀ {a b c d e : Raw}, List.drop 15 (am a b c d e) = [] := by simp [am]
  simp [h1, tk, ec3, ec6, hout, n2, l15, t15, cU, aM]
  refine rdK_dyn hgc (tg he _ _) ?_
  rw [oD he]
  simp [tk, ec3, ec6, aM]
  refine ak s1 (by simp [cP, bq, bW]) ?_
  have r0 : ∀ (σ : Sto) (n : Nat), (msC (g L[i].v)).flatMap (rch σ n) = [] := fun σ n => gK σ n _
  simp [r0, rchs, E.deep]
  have gok := (hA i).1
  have gth := weights_gather (σ := ag τ (fresh τ) ⟨.own, 6, [aA L[i]]⟩) (G := (aZ m g (L.take i)).parts) (q := q) (y := aI (c9 (g L[i].v) L[i].w.q)) (a := (aZ m g (L.take i)).rf) (b := (aZ m g (L.take i)).lo) (c := (aZ m g (L.take i)).f0) (d := (aZ m g (L.take i)).f1) (e := (aZ m g (L.take i)).f2)
   (aE I.shut (av fun y hy f => bn _ y hy f)) (fun h => by rw [ab, if_neg (by have := bt (I.prt h); omega)]; exact I.prt h) (hA i).2 (Nat.le_trans (dS _) (by rw [ge]; omega)) gok.rf gok.lo gok.f0 gok.f1 gok.f2 s2
  obtain ⟨e1, e2, e3, e4, e5⟩ := qJ (m := m) (g := g) h1
  have ep := jc (m := m) (g := g) h1
  rw [e1, e2, e3, e4, e5, ← ep] at gth
  have st := I.step (y := aI (c9 (g L[i].v) L[i].w.q)) (A' := aZ m g (L.take (i + 1))) (x := ⟨.own, 6, [aA L[i]]⟩) (av fun y hy f => bn _ y hy f) ep
  have g2 : E.look (ee (ag τ (fresh τ) ⟨.own, 6, [aA L[i]]⟩) q (aZ m g (L.take i)).parts (aI (c9 (g L[i].v) L[i].w.q)).parts) 2 = some ⟨.own, 16, [bl q (aZ m g (L.take i)).parts.length :: am (aZ m g (L.take i)).rf (aZ m g (L.take i)).lo (aZ m g (L.take i)).f0 (aZ m g (L.take i)).f1 (aZ m g (L.take i)).f2]⟩ := by
   rw [fc (fun h => (I.q2 h).2.symm) (by rw [bc]; omega), ab, if_neg n2]; exact hout
  refine mD gth ?_
  simp [g2, l15, d15, aM]
  rw [ap (by omega) (by omega)]
  refine ⟨(i + 1, _, _), ⟨h1, st⟩, by dsimp only; omega, st.weak he ?_⟩
  unfold mq
  repeat (first | exact af | refine aj (by simp) ?_)
 ·have hil : i = L.length := by omega
  subst hil
  have hout := I.out
  have hres := I.res
  have l15 : ∀ {a b c d e : Raw}, (am a b c d e).length = 15 := by simp [am]
  have t15 : ∀ {a b c d e : Raw}, List.take 15 (am a b c d e) = am a b c d e := by simp [am]
  have d15 : ∀ {a b c d e : Raw}, List.drop 15 (am a b c d e) = [] := by simp [am]
  simp [hout, l15, t15, aM]
  have okE := (hA L.length).1
  rw [fin] at okE
  have come := fP (m := aZ m g L) hJ (fun p hp => ⟨(okE.parts p hp).1, hP p hp⟩) okE hJb (by have := (hA L.length).2; rwa [fin] at this)
  rw [fin] at I
  have hprt := I.prt
  have hq2 := I.q2
  generalize aZ m g L = A at *
  have e11 : ∀ {a b c d e : Raw}, bo (toD τ 11) (am a b c d e) = some (am a b c d e) := by simp [am]
  have hTD : toD τ 11 (bl q A.parts.length) = some (pl A.parts) := cI (k := 10) (st := .own) (es := 6) (fun h => hprt (fun e => h (by rw [e]; rfl))) (by simp) (by simp) (by simp) (fun r hr => by obtain ⟨p, _, rfl⟩ := List.mem_map.1 hr; exact bG _ _ _)
  refine ai come ?_ ?_
  ·simp [e11, hTD, msC]
  have hrr : rch τ 11 (bl q A.parts.length) = if A.parts = [] then [] else [q] := by
   by_cases n0 : A.parts = []
   ·rw [if_pos n0, n0]; rfl
   ·rw [if_neg n0, ax (fun h => n0 (List.length_eq_zero_iff.1 h))]
    exact fi (k := 10) (st := .own) (es := 6) (l := A.parts.map aA) (by simp [aM, hprt n0]) (by simp) (fun r hr => by obtain ⟨p, _, rfl⟩ := List.mem_map.1 hr; exact f9 _ _ _)
  have rt : ∀ {a b c d e : Raw}, (am a b c d e).flatMap (rch τ 11) = [] := by simp [am]
  have l1 : E.look (frz τ (if A.parts = [] then [] else [q])) 1 = some ⟨.own, 16, [az]⟩ := by
   rw [cG, hres]
   by_cases n0 : A.parts = []
   ·simp [n0]
   ·have := (hq2 n0).1
    simp [n0, Ne.symm this]
  have n16 : (msC (aI A)).length = 16 := by simp [msC, am]
  have t16 : List.take 16 (msC (aI A)) = msC (aI A) := by simp [msC, am]
  simp [rchs, E.deep, hrr, rt, Ms.v, l1, az, n16, t16, cP]
end Go.Proofs.YtmjgehbpcchjpaaGreatDoor
