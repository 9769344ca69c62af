import Derived.Test.YtmjgehbpcchjpaaGreatDoorHR
namespace Go.Proofs.YtmjgehbpcchjpaaGreatDoor.F
open Go Go.Proofs Go.Proofs.YtmjgehbpcchjpaaGreatDoor.E Go.Proofs.YtmjgehbpcchjpaaGreatDoor.Q
abbrev weights_gather : Nat := 127
def weights_gather_c : MFn := ⟨41,(.seq (r [o 2 (.box (.t 0)),o 3 (.box (.t 1)),o 4 (.alloc zM)] [2,3,4]) (.seq (r [o 6 (.fA 0 (.t 2)),o 7 (.ld none (.t 6)),o 8 (.fA 0 (.t 3)),o 9 (.ld none (.t 8)),o 10 (.app 6 96 (.t 7) (.t 9)),o 11 (.fA 0 (.t 2)),z (.st 1 (.t 11) (.t 10))] [2,3,4]) (.seq (r [o 12 (.fA 1 (.t 2)),o 13 (.ld (some 3) (.t 12)),o 14 (.fA 1 (.t 3)),o 15 (.ld (some 3) (.t 14)),o 16 (.callF 40 [(.t 13),(.t 15)]),o 17 (.fA 4 (.t 2)),o 18 (.ld (some 3) (.t 17)),o 19 (.fA 4 (.t 3)),o 20 (.ld (some 3) (.t 19)),o 21 (.callF 40 [(.t 18),(.t 20)]),o 22 (.fA 1 (.t 2)),z (.st 3 (.t 22) (.t 16)),o 23 (.fA 4 (.t 2)),z (.st 3 (.t 23) (.t 21))] [2,3,4]) (.seq (.seq (r [o 24 (.mv (i 0))] [2,3,4,24]) (.block 0 (.loop (.seq (r [o 25 (.bin .lss (.t 24) (i 3))] [2,3,4,24,25]) (.seq (.cond (.t 25) .skip (.exit 0)) (.seq (.block 1 (.seq (r [o 26 (.mv (.t 24)),o 5 (.mv (.t 26))] [2,3,4,5,24]) (r [o 27 (.mv (.t 5)),o 28 (.mv (.t 5)),o 29 (.fA 7 (.t 2)),o 30 (.ixArr 3 3 (.t 29) (.t 28)),o 31 (.ld (some 3) (.t 30)),o 32 (.mv (.t 5)),o 33 (.fA 7 (.t 3)),o 34 (.ixArr 3 3 (.t 33) (.t 32)),o 35 (.ld (some 3) (.t 34)),o 36 (.callF 40 [(.t 31),(.t 35)]),o 37 (.fA 7 (.t 2)),o 38 (.ixArr 3 3 (.t 37) (.t 27)),z (.st 3 (.t 38) (.t 36))] [2,3,4,24]))) (r [o 39 (.bin .add (.t 24) (i 1)),o 24 (.mv (.t 39))] [2,3,4,24]))))))) (.seq (r [o 40 (.ld (some 16) (.t 2)),z (.st 16 (.t 4) (.t 40))] [4]) .ret))))),[.cell 4 (some 16)]⟩
theorem weights_gather_ok : cFn Tryz.prog (kps [[2,3,4],[2,3,4],[2,3,4],[2,3,4,24],[2,3,4,24,25],[2,3,4,5,24],[2,3,4,24],[2,3,4,24],[4]]) [] 127 = some weights_gather_c := by kernel_rfl
end Go.Proofs.YtmjgehbpcchjpaaGreatDoor.F

namespace Go.Proofs.YtmjgehbpcchjpaaGreatDoor
open Go Go.Proofs Go.Proofs.YtmjgehbpcchjpaaGreatDoor.E
set_option linter.unusedSimpArgs false
set_option linter.unusedVariables false
def m9 (σ : Sto) (q : Nat) (B : List Part) : Nat := if B = [] then q else am σ + 3
def gh (σ : Sto) (q : Nat) (G B : List Part) : Sto := if B = [] then σ else if G = [] then ac σ (am σ + 3) (obL B) else ac (ac σ q ⟨.dead, 6, []⟩) (am σ + 3) (obL (G ++ B))
def rB (a b c d e c' d' e' : Raw) (g : Nat) : List V := ay a b (if g ≤ 0 then c else c') (if g ≤ 1 then d else d') (if g ≤ 2 then e else e')
def apN (X : Sto) (q : Nat) (B : List Part) : Nat := if B = [] then q else am X
def apS (X : Sto) (q : Nat) (G B : List Part) : Sto := if B = [] then X else if G = [] then ac X (am X) (obL B) else ac (ac X q ⟨.dead, 6, []⟩) (am X) (obL (G ++ B))
theorem tA {X : Sto} {q : Nat} {G B : List Part} (hG : G ≠ [] → E.look X q = some (obL G)) (lG : G.length ≤ 1000000) (lB : B.length ≤ 1000000) : je X 6 96 (B.map aI) (bA q G.length) = some (bA (apN X q B) (G ++ B).length, apS X q G B) := by
 cases B with
 | nil =>
   have e : apN X q [] = q ∧ apS X q G [] = X := ⟨if_pos rfl, if_pos rfl⟩
   rw [e.1, e.2, List.append_nil]
   by_cases g0 : G.length = 0
   ·rw [g0]; rfl
   ·rw [az g0]; rfl
 | cons p B =>
   have e : apN X q (p :: B) = am X := if_neg (by simp)
   rw [e]
   simp at lB
   by_cases g0 : G = []
   ·subst g0
    simp (disch := omega) [je, aF, apS, obL, if_pos]
    rw [az (by simp)]
   ·have g1 : G.length ≠ 0 := fun h => g0 (List.length_eq_zero_iff.1 h)
    rw [az g1]
    have hq := hG g0
    simp (disch := omega) [je, hq, aV, apS, g0, obL, if_pos]
    rw [az (by omega)]
theorem elems_pl {X : Sto} {B : List Part} : df X 6 (pl B) = some (B.map aI) := by
 cases B with
 | nil => simp [df]
 | cons p B =>
   have hd : pl (p :: B) = .dat (aI p :: B.map aI) := rfl
   rw [hd]
   simp [df]
set_option maxHeartbeats 8000000 in
theorem weights_gather {σ : Sto} {G : List Part} {q : Nat} {a b c d e : Raw} {y : Ms} (hs : cA σ) (hG : G ≠ [] → E.look σ q = some (obL G)) (lG : G.length ≤ 1000000) (ly : y.parts.length ≤ 1000000)
 (ha : a.Ok (2 ^ 31)) (hb : b.Ok (2 ^ 31)) (hc : c.Ok (2 ^ 31)) (hd : d.Ok (2 ^ 31)) (he : e.Ok (2 ^ 31)) (hy : y.Ok (2 ^ 31)) :
 CallX Tryz.prog F.weights_gather [.agg (bA q G.length :: ay a b c d e), y.v] σ (fun v s => v = .agg (bA (m9 σ q y.parts) (G ++ y.parts).length :: ay (ap (a.q + y.rf.q)) (ap (b.q + y.lo.q)) (ap (c.q + y.f0.q)) (ap (d.q + y.f1.q)) (ap (e.q + y.f2.q))) ∧ s = gh σ q G y.parts) := by
 refine cD F.weights_gather_ok ?_
 unfold F.weights_gather_c
 generalize hf : am σ = f
 have n0 : E.look σ f = none := bP σ _ (by omega)
 have n1 : E.look σ (f + 1) = none := bP σ _ (by omega)
 have n2 : E.look σ (f + 2) = none := bP σ _ (by omega)
 have n3 : E.look σ (f + 3) = none := bP σ _ (by omega)
 have l16 : (msC y).length = 16 := by simp [msC, ay]
 have l15 : ∀ {a b c d e : Raw}, (ay a b c d e).length = 15 := by simp [ay]
 simp (disch := omega) [-ai, hf, ef, l16, l15, Nat.max_eq_left, Nat.max_eq_right]
 have hGX := hG
 generalize hX : ac (ac (ac σ f ⟨.own, 16, [bA q G.length :: ay a b c d e]⟩) (f + 1) ⟨.own, 16, [msC y]⟩) (f + 1 + 1) ⟨.own, 16, [[.nils, .bool false, .nils, .nils, .bool false, .nils, .nils, .bool false, .nils, .nils, .bool false, .nils, .nils, .bool false, .nils, .nils]]⟩ = X
 have hX0 : E.look X f = some ⟨.own, 16, [bA q G.length :: ay a b c d e]⟩ := by rw [← hX, ai, if_neg (by omega), ai, if_neg (by omega), ai, if_pos rfl]
 have hX1 : E.look X (f + 1) = some ⟨.own, 16, [msC y]⟩ := by rw [← hX, ai, if_neg (by omega), ai, if_pos rfl]
 have hX2 : E.look X (f + 1 + 1) = some ⟨.own, 16, [aU]⟩ := by rw [← hX, ai, if_pos rfl]; rfl
 have hXo : ∀ o, o < f → E.look X o = E.look σ o := fun o ho => by rw [← hX, ai, if_neg (by omega), ai, if_neg (by omega), ai, if_neg (by omega)]
 have hXf : am X = f + 3 := by rw [← hX, ef, ef, ef, hf]; omega
 have hq : G ≠ [] → q < f := fun h => by rw [← hf]; exact cr (hG h)
 have hap := tA (X := X) (B := y.parts) (fun h => by rw [hXo q (hq h)]; exact hG h) lG ly
 have hYo : ∀ o, o ≠ q → o ≠ f + 3 → E.look (apS X q G y.parts) o = E.look X o := fun o h1 h2 => by
  unfold apS
  rw [hXf]
  split
  ·rfl
  split
  ·rw [ai, if_neg h2]
  ·rw [ai, if_neg h2, ai, if_neg h1]
 have hYq : G = [] → ∀ o, o ≠ f + 3 → E.look (apS X q G y.parts) o = E.look X o := fun h o h2 => by
  unfold apS
  rw [hXf]
  by_cases hB : y.parts = []
  ·rw [if_pos hB]
  ·rw [if_neg hB, if_pos h, ai, if_neg h2]
 have hYx : ∀ o, f ≤ o → o ≠ f + 3 → E.look (apS X q G y.parts) o = E.look X o := fun o h1 h2 => by
  by_cases g0 : G = []
  ·exact hYq g0 o h2
  ·exact hYo o (by have := hq g0; omega) h2
 have hY0 := (hYx f (by omega) (by omega)).trans hX0
 have hY1 := (hYx (f + 1) (by omega) (by omega)).trans hX1
 have hY2 := (hYx (f + 1 + 1) (by omega) (by omega)).trans hX2
 have hsX : cA X := by
  rw [← hX]
  refine aG (aG (gZ hs fun r hr z hz => ?_) (aJ (gi y))) (aJ (by simp [V.within]))
  simp only [List.mem_singleton] at hr; subst hr
  rcases List.mem_cons.1 hz with rfl | hz
  ·by_cases g0 : G.length = 0
   ·rw [g0, aF]; simp [V.within]
   ·rw [az g0, bB, ai]
    split
    ·rfl
    ·rw [hG fun h => g0 (by rw [h]; rfl)]; rfl
  ·exact cI _ _ _ _ _ z hz _
 have hsY : cA (apS X q G y.parts) := by
  unfold apS
  split
  ·exact hsX
  split
  ·exact aG hsX (aY _)
  ·exact aG (aG hsX (fun r hr => by simp at hr)) (aY _)
 have hLw : (bA (apN X q y.parts) (G.length + y.parts.length)).within (fun o => (E.look (apS X q G y.parts) o).isSome) = true := by
  by_cases hB : y.parts = []
  ·have e1 : apN X q y.parts = q := if_pos hB
   have e2 : apS X q G y.parts = X := if_pos hB
   rw [e1, e2, hB]
   by_cases g0 : G.length = 0
   ·rw [g0]; simp [aF, V.within]
   ·have g1 : G ≠ [] := fun h => g0 (by rw [h]; rfl)
    rw [az (by simpa using g1), bB, hXo q (hq g1), hG g1]; rfl
  ·have b0 : y.parts.length ≠ 0 := fun h => hB (List.length_eq_zero_iff.1 h)
   have e1 : apN X q y.parts = am X := if_neg hB
   rw [e1, az (by omega), bB]
   unfold apS
   rw [if_neg hB]
   split
   ·rw [ai, if_pos rfl]; rfl
   ·rw [ai, if_pos rfl]; rfl
 have hLc : bA (apN X q y.parts) (G.length + y.parts.length) = .nils ∨ ∃ o n, bA (apN X q y.parts) (G.length + y.parts.length) = .ref o 0 n := by
  by_cases h : G.length + y.parts.length = 0
  ·rw [h]; exact .inl rfl
  ·rw [az h]; exact .inr ⟨_, _, rfl⟩
 have hN : m9 σ q y.parts = apN X q y.parts := by unfold m9 apN; rw [hXf, hf]
 have hHas : Has (gh σ q G y.parts) (apS X q G y.parts) := fun o x ho => by
  unfold gh at ho
  unfold apS
  rw [hf] at ho
  rw [hXf]
  have old : E.look σ o = some x → o < f := fun h => by rw [← hf]; exact cr h
  by_cases hB : y.parts = []
  ·rw [if_pos hB] at ho ⊢
   rw [hXo o (old ho)]; exact ho
  ·rw [if_neg hB] at ho ⊢
   by_cases g0 : G = []
   ·rw [if_pos g0, ai] at ho ⊢
    split at ho
    ·rename_i e; rw [if_pos e]; exact ho
    ·rename_i e; rw [if_neg e, hXo o (old ho)]; exact ho
   ·rw [if_neg g0, ai, ai] at ho ⊢
    split at ho
    ·rename_i e; rw [if_pos e]; exact ho
    ·rename_i e
     rw [if_neg e]
     split at ho
     ·rename_i e2; rw [if_pos e2]; exact ho
     ·rename_i e2; rw [if_neg e2, hXo o (old ho)]; exact ho
 have hHs : cA (gh σ q G y.parts) := by
  unfold gh
  split
  ·exact hs
  split
  ·exact aG hs (aY _)
  ·exact aG (aG hs (fun r hr => by simp at hr)) (aY _)
 have hHk : ∀ o, (E.look σ o).isSome = true → (E.look (gh σ q G y.parts) o).isSome = true := fun o ho => by
  unfold gh
  split
  ·exact ho
  split
  ·rw [ai]; split
   ·rfl
   ·exact ho
  ·rw [ai, ai]; split
   ·rfl
   split
   ·rfl
   ·exact ho
 have hHn : ∀ o, o = f ∨ o = f + 1 + 1 → E.look (gh σ q G y.parts) o = none := fun o ho => by
  have n4 : E.look σ o = none := by
   rcases ho with h | h
   ·rw [h]; exact n0
   ·rw [h]; exact n2
  unfold gh
  rw [hf]
  split
  ·exact n4
  split
  ·rw [ai, if_neg (by omega)]; exact n4
  ·rename_i g0
   have := hq g0
   rw [ai, if_neg (by omega), ai, if_neg (by omega)]; exact n4
 have hLg : (bA (apN X q y.parts) (G.length + y.parts.length)).within (fun o => (E.look (gh σ q G y.parts) o).isSome) = true := by
  by_cases hB : y.parts = []
  ·have e1 : apN X q y.parts = q := if_pos hB
   have e2 : gh σ q G y.parts = σ := if_pos hB
   rw [e1, e2, hB]
   by_cases g0 : G.length = 0
   ·rw [g0]; simp [aF, V.within]
   ·have g1 : G ≠ [] := fun h => g0 (by rw [h]; rfl)
    rw [az (by simpa using g1), bB, hG g1]; rfl
  ·have b0 : y.parts.length ≠ 0 := fun h => hB (List.length_eq_zero_iff.1 h)
   have e1 : apN X q y.parts = f + 3 := by rw [← hXf]; exact if_neg hB
   rw [e1, az (by omega), bB]
   unfold gh
   rw [if_neg hB, hf]
   split
   ·rw [ai, if_pos rfl]; rfl
   ·rw [ai, if_pos rfl]; rfl
 simp only [ay, msC, aU] at hX0 hX1 hX2 hY0 hY1 hY2
 simp [-je, -df, hX0, hX1, hap, elems_pl]
 rw [hN]
 clear hap hN hYo hYq hYx
 generalize bA (apN X q y.parts) (G.length + y.parts.length) = L at *
 generalize hY : apS X q G y.parts = Y at *
 have x1 : ¬ f = f + 1 := by omega
 have x2 : ¬ f + 1 = f := by omega
 have x3 : ¬ f + 1 + 1 = f := by omega
 have x4 : ¬ f = f + 1 + 1 := by omega
 have x5 : ¬ f + 1 + 1 = f + 1 := by omega
 have x6 : ¬ f + 1 = f + 1 + 1 := by omega
 let A := ap (a.q + y.rf.q)
 let B := ap (b.q + y.lo.q)
 let C := ap (c.q + y.f0.q)
 let D := ap (d.q + y.f1.q)
 let H := ap (e.q + y.f2.q)
 obtain ⟨Z, hZ⟩ : ∃ Z : Nat → Sto, ∀ g, Z g = ac Y f ⟨.own, 16, [L :: rB A B c d e C D H g]⟩ := ⟨_, fun _ => rfl⟩
 have hZs : ∀ g, cA (Z g) := fun g => hZ g ▸ gZ hsY fun r hr z hz => by
  simp only [List.mem_singleton] at hr; subst hr
  rcases List.mem_cons.1 hz with rfl | hz
  ·exact jO hLw
  ·exact cI _ _ _ _ _ z hz _
 have hsome : ∀ {o : Nat} {x : Ob}, E.look Y o = some x → (E.look Y o).isSome = true := fun h => by rw [h]; rfl
 have s0 := hsome hY0
 have s1 := hsome hY1
 have s2 := hsome hY2
 have hZk : ∀ g, ∀ k ∈ σ.map (·.1), (E.look (Z g) k).isSome = true := fun g => hZ g ▸ aX fun k hk => by
  have := hHk k (aO k hk)
  obtain ⟨x, hx⟩ := Option.isSome_iff_exists.1 this
  rw [hHas k x hx]; rfl
 have wp : ∀ g o, (E.look Y o).isSome = true → (E.look (Z g) o).isSome = true := fun g o ho => by
  rw [hZ, ai]; split
  ·rfl
  ·exact ho
 have hW : ∀ (S : Sl) (σ' : Sto) (g : Nat), Sub ((((Sl.empty.set 24 (.int .i64 g)).set 4 (.ptr (f + 1 + 1) 0 0)).set 3 (.ptr (f + 1) 0 0)).set 2 (.ptr f 0 0)) S → σ' = Z g → Weak (σ.map (·.1)) ((((Sl.empty.set 24 (.int .i64 g)).set 4 (.ptr (f + 1 + 1) 0 0)).set 3 (.ptr (f + 1) 0 0)).set 2 (.ptr f 0 0)) (Z g) S σ' := fun S σ' g h1 h2 => by
  subst h2
  refine aN h1 (Has.refl _) (hZk g) ?_ (hZs g)
  repeat (first | exact aa | refine ah (by first | (simp; done) | (rw [cU]; first | exact wp g _ s0 | exact wp g _ s1 | exact wp g _ s2)) ?_)
 rcases hLc with hL | ⟨o', n', hL⟩
 all_goals
  simp [hL, hY0, hY1, hY2, aV, x1, x2, x3, x4, x5, x6]
  refine aq (ratio_Add ha hy.rf) (by simp [Raw.v]) ?_
  simp [bH, Raw.v, hY0, hY1, hY2, aV, x1, x2, x3, x4, x5, x6]
  refine aq (ratio_Add hb hy.lo) (by simp [Raw.v]) ?_
  simp [bH, Raw.v, hY0, hY1, hY2, aV, x1, x2, x3, x4, x5, x6, du]
  refine aD (fun g : Nat => ((((Sl.empty.set 24 (.int .i64 g)).set 4 (.ptr (f + 1 + 1) 0 0)).set 3 (.ptr (f + 1) 0 0)).set 2 (.ptr f 0 0), Z g)) (fun g => g ≤ 3) (fun g => 3 - g) 0 (by omega) ?_ ?_
  ·refine hW _ _ 0 ?_ (by rw [hZ, hL]; rfl)
   repeat (first | exact ae | refine aj (by simp) ?_)
  intro g hg
  by_cases hg3 : g < 3
  ·rcases (show g = 0 ∨ g = 1 ∨ g = 2 by omega) with rfl | rfl | rfl
   ·simp [hZ 0, hL, rB, ay, hY1, hY2, aV, x1, x2, x3, x4, x5, x6]
    refine aq (ratio_Add hc hy.f0) (by simp [Raw.v]) ?_
    simp [bH, Raw.v, hL, hY1, hY2, aV, x1, x2, x3, x4, x5, x6, du]
    rw [ak (by omega) (by omega)]
    refine ⟨1, by omega, by dsimp only; omega, hW _ _ 1 ?_ (by rw [hZ, hL]; rfl)⟩
    repeat (first | exact ae | refine aj (by simp) ?_)
   ·simp [hZ 1, hL, rB, ay, hY1, hY2, aV, x1, x2, x3, x4, x5, x6]
    refine aq (ratio_Add hd hy.f1) (by simp [Raw.v]) ?_
    simp [bH, Raw.v, hL, hY1, hY2, aV, x1, x2, x3, x4, x5, x6, du]
    rw [ak (by omega) (by omega)]
    refine ⟨2, by omega, by dsimp only; omega, hW _ _ 2 ?_ (by rw [hZ, hL]; rfl)⟩
    repeat (first | exact ae | refine aj (by simp) ?_)
   ·simp [hZ 2, hL, rB, ay, hY1, hY2, aV, x1, x2, x3, x4, x5, x6]
    refine aq (ratio_Add he hy.f2) (by simp [Raw.v]) ?_
    simp [bH, Raw.v, hL, hY1, hY2, aV, x1, x2, x3, x4, x5, x6, du]
    rw [ak (by omega) (by omega)]
    refine ⟨3, by omega, by dsimp only; omega, hW _ _ 3 ?_ (by rw [hZ, hL]; rfl)⟩
    repeat (first | exact ae | refine aj (by simp) ?_)
  have e3 : g = 3 := by omega
  subst e3
  simp [hZ 3, hL, rB, ay, hY1, hY2, aV, x1, x2, x3, x4, x5, x6]
  refine bW (r := .agg (L :: ay A B C D H)) (l := [.agg (L :: ay A B C D H)]) (σ1 := gh σ q G y.parts) (by simp) (by simp [hL, ay]) rfl (fun o x ho => ?_) (fun k hk => hHk k (aO k hk)) hHs ?_ ⟨by rw [hL]; simp [ay, A, B, C, D, H], rfl⟩
  ·have m1 : ¬ o = f := fun h => by rw [h, hHn f (.inl rfl)] at ho; simp at ho
   have m2 : ¬ o = f + 1 + 1 := fun h => by rw [h, hHn (f + 1 + 1) (.inr rfl)] at ho; simp at ho
   rw [ai, if_neg m2, ai, if_neg m1]
   exact hHas o x ho
  ·rw [nV, List.all_eq_true]
   intro z hz
   rcases List.mem_cons.1 hz with rfl | hz
   ·exact hLg
   ·exact cI _ _ _ _ _ z hz _
theorem oL {σ : Sto} {q o : Nat} {G B : List Part} (h : G ≠ [] → o ≠ q) (ho : o < am σ) : E.look (gh σ q G B) o = E.look σ o := by
 unfold gh
 split
 ·rfl
 split
 ·rw [ai, if_neg (by omega)]
 ·rename_i g0
  rw [ai, if_neg (by omega), ai, if_neg (h g0)]
theorem oM {σ : Sto} {q : Nat} {G B : List Part} (hs : cA σ) : cA (gh σ q G B) := by
 unfold gh
 split
 ·exact hs
 split
 ·exact aG hs (aY _)
 ·exact aG (aG hs (fun r hr => by simp at hr)) (aY _)
theorem iT {σ : Sto} {q : Nat} {G B : List Part} (hG : G ≠ [] → E.look σ q = some (obL G)) (hn : G ++ B ≠ []) : E.look (gh σ q G B) (m9 σ q B) = some (obL (G ++ B)) := by
 unfold gh m9
 by_cases hB : B = []
 ·rw [if_pos hB, if_pos hB, hB, List.append_nil]
  exact hG (fun h => hn (by rw [h, hB]; rfl))
 ·rw [if_neg hB, if_neg hB]
  split
  ·rename_i g0; rw [ai, if_pos rfl, g0, List.nil_append]
  ·rw [ai, if_pos rfl]
theorem iS {σ : Sto} {q o : Nat} {G B : List Part} (h : G ≠ [] → q ≠ o) (hn : G ++ B ≠ []) (ho : o < am σ) : m9 σ q B ≠ o := by
 unfold m9
 split
 ·rename_i hB; exact h (fun h => hn (by rw [h, hB]; rfl))
 ·omega
def Elts (l : List V) : Prop := ∀ y ∈ l, ∃ r, y = .elt r
theorem Elts.toPs {l : List V} (h : Elts l) (σ : Sto) : toPs σ l = some l := by
 induction l with
 | nil => rfl
 | cons a l ih =>
   obtain ⟨r, rfl⟩ := h a (by simp)
   have := ih fun y hy => h y (by simp [hy])
   simp only [E.toPs, this]
   rfl
theorem Elts.rchPs {l : List V} (h : Elts l) (σ : Sto) : rchPs σ l = [] := by
 unfold E.rchPs
 rw [List.flatMap_eq_nil_iff]
 intro y hy
 obtain ⟨r, rfl⟩ := h y hy
 rfl
theorem Elts.within {l : List V} (h : Elts l) (p : Nat → Bool) (f : Nat) : (V.clo f l).within p = true := by
 simp [V.within]
 intro y hy
 obtain ⟨r, rfl⟩ := h y hy
 simp [V.within]
structure BI (A : Ms) (q : Nat) (τ : Sto) : Prop where
 res : E.look τ 1 = some ⟨.own, 16, [aU]⟩
 out : E.look τ 2 = some ⟨.own, 16, [bA q A.parts.length :: ay A.rf A.lo A.f0 A.f1 A.f2]⟩
 prt : A.parts ≠ [] → E.look τ q = some (obL A.parts)
 q2 : A.parts ≠ [] → q ≠ 1 ∧ q ≠ 2
 shut : cA τ
theorem BI.step {A y A' : Ms} {q : Nat} {τ : Sto} {x : Ob} (I : BI A q τ) (hx : ea x.cells) (hp : A'.parts = A.parts ++ y.parts) :
 BI A' (m9 (ac τ (am τ) x) q y.parts) (ac (gh (ac τ (am τ) x) q A.parts y.parts) 2 ⟨.own, 16, [bA (m9 (ac τ (am τ) x) q y.parts) A'.parts.length :: ay A'.rf A'.lo A'.f0 A'.f1 A'.f2]⟩) := by
 have f1 := cr I.res
 have f2 := cr I.out
 have ff : am (ac τ (am τ) x) = am τ + 1 := by rw [ef]; omega
 have hl : ∀ o, o < am τ → E.look (ac τ (am τ) x) o = E.look τ o := fun o ho => by rw [ai, if_neg (by omega)]
 have hq : A.parts ≠ [] → E.look (ac τ (am τ) x) q = some (obL A.parts) := fun h => by rw [hl q (cr (I.prt h))]; exact I.prt h
 refine ⟨?_, ?_, fun h => ?_, fun h => ?_, ?_⟩
 ·rw [ai, if_neg (by omega), oL (fun h => (I.q2 h).1.symm) (by omega), hl 1 f1]; exact I.res
 ·rw [ai, if_pos rfl]
 ·have h' : A.parts ++ y.parts ≠ [] := by rw [← hp]; exact h
  rw [ai, if_neg (iS (fun h => (I.q2 h).2) h' (by omega)), hp]
  exact iT hq h'
 ·have h' : A.parts ++ y.parts ≠ [] := by rw [← hp]; exact h
  exact ⟨iS (fun h => (I.q2 h).1) h' (by omega), iS (fun h => (I.q2 h).2) h' (by omega)⟩
 ·refine gZ (oM (aG I.shut hx)) fun r hr z hz => ?_
  simp only [List.mem_singleton] at hr; subst hr
  rcases List.mem_cons.1 hz with rfl | hz
  ·by_cases n0 : A'.parts.length = 0
   ·rw [n0, aF]; simp [V.within]
   ·have h' : A.parts ++ y.parts ≠ [] := by rw [← hp]; exact fun h => n0 (by rw [h]; rfl)
    rw [az n0, bB, ai]
    split
    ·rfl
    ·rw [iT hq h']; rfl
  ·exact cI _ _ _ _ _ z hz _
end Go.Proofs.YtmjgehbpcchjpaaGreatDoor
