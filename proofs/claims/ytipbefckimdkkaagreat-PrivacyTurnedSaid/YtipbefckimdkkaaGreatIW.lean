import Derived.Test.YtipbefckimdkkaaGreatIV
import Derived.Test.YtipbefckimdkkaaGreatHF
import Derived.Test.YtipbefckimdkkaaGreatIU
namespace Go.Proofs.YtipbefckimdkkaaGreat.F
open Go Go.Proofs Go.Proofs.YtipbefckimdkkaaGreat.E Go.Proofs.YtipbefckimdkkaaGreat.Q
abbrev value_Same : Nat := 94
def value_Same_c : MFn := ⟨9,(.seq (r [o 2 (.box (.t 0)),o 3 (.box (.t 1)),o 4 (.mv (.c (.bool false)))] [2,3]) (.seq (r [o 5 (.ld (some 3) (.t 2)),o 6 (.ld (some 3) (.t 3)),o 7 (.call 93 [(.t 5),(.t 6)]),o 8 (.bin .eql (.t 7) (i 0)),o 4 (.mv (.t 8))] [4]) .ret)),[.t 4]⟩
theorem value_Same_ok : cFn Tryz.prog (kps [[2,3],[4]]) [] 94 = some value_Same_c := by kernel_rfl
abbrev privacy_Turn : Nat := 46
def privacy_Turn_c : MFn := ⟨103,(.seq (r [o 4 (.mv (.c .nils)),o 5 (.mv (i 0))] [0,1]) (.seq (.seq (r [o 17 (.mv (.t 0)),o 18 (.call 87 [(.t 17)]),o 19 (.un .not (.t 18)),o 20 (.mv (.t 19)),n 21 20 (.mv (.t 1)),n 22 20 (.binF .eql (.t 21) (.c .nilf)),o 23 (.pick (.t 20) (.c (.bool true)) (.t 22))] [0,1,23]) (.cond (.t 23) (.seq (r [o 4 (.mv (.c .nils)),o 5 (.mv (i 1))] [4,5]) .ret) .skip)) (.seq (r [o 6 (.mv (.c .nils))] [0,1,6]) (.seq (.seq (r [o 24 (.mv (.t 0)),o 25 (.lenS (.t 24)),o 26 (.mv (i 0))] [1,6,24,25,26]) (.block 0 (.loop (.seq (r [o 27 (.bin .lss (.t 26) (.t 25))] [1,6,24,25,26,27]) (.seq (.cond (.t 27) .skip (.exit 0)) (.seq (.block 1 (.seq (r [o 28 (.ixA 6 (.t 24) (.t 26)),o 29 (.ld (some 6) (.t 28)),o 8 (.alloc zP),z (.st 6 (.t 8) (.t 29))] [1,6,8,24,25,26]) (.seq (r [o 31 (.mv (.t 1)),o 32 (.fA 0 (.t 8)),o 33 (.ld (some 3) (.t 32)),o 34 (.call 90 [(.t 31),(.t 33)]),o 30 (.mv (.t 34)),o 35 (.ext (.t 30) 0),o 36 (.ext (.t 30) 1),o 9 (.mv (.t 35)),o 10 (.mv (.t 36))] [1,6,8,9,10,24,25,26]) (.seq (.seq (r [o 37 (.mv (.t 10)),o 38 (.un .not (.t 37))] [1,6,8,9,24,25,26,38]) (.cond (.t 38) (.seq (r [o 4 (.mv (.c .nils)),o 5 (.mv (i 1))] [4,5]) .ret) .skip)) (.seq (r [o 39 (.mv (.t 9)),o 40 (.lenS (.t 39)),o 41 (.mv (i 0))] [1,6,8,24,25,26,39,40,41]) (.block 2 (.loop (.seq (r [o 42 (.bin .lss (.t 41) (.t 40))] [1,6,8,24,25,26,39,40,41,42]) (.seq (.cond (.t 42) .skip (.exit 2)) (.seq (.block 3 (.seq (r [o 43 (.ixA 6 (.t 39) (.t 41)),o 44 (.ld (some 6) (.t 43)),o 12 (.alloc zP),z (.st 6 (.t 12) (.t 44))] [1,6,8,12,24,25,26,39,40,41]) (r [o 45 (.mv (.t 6)),o 46 (.fA 0 (.t 12)),o 47 (.ld (some 3) (.t 46)),o 48 (.callF 67 [(.t 47)]),o 49 (.fA 3 (.t 8)),o 50 (.ld (some 3) (.t 49)),o 51 (.fA 3 (.t 12)),o 52 (.ld (some 3) (.t 51)),o 53 (.callF 79 [(.t 50),(.t 52)]),o 54 (.build zP [(0,3,(.t 48)),(3,3,(.t 53))]),o 55 (.buildSl 6 1 zP [(0,(.t 54))]),o 56 (.app 6 96 (.t 45) (.t 55)),o 6 (.mv (.t 56))] [1,6,8,24,25,26,39,40,41]))) (r [o 57 (.bin .add (.t 41) (i 1)),o 41 (.mv (.t 57))] [1,6,8,24,25,26,39,40,41]))))))))))) (r [o 58 (.bin .add (.t 26) (i 1)),o 26 (.mv (.t 58))] [1,6,24,25,26]))))))) (.seq (r [o 59 (.mv (.t 6)),o 60 (.call 91 [(.t 59),(.c (.clo 92 []))])] [6]) (.seq (r [o 13 (.mv (.c .nils))] [6,13]) (.seq (.seq (r [o 61 (.mv (.t 6)),o 62 (.lenS (.t 61)),o 63 (.mv (i 0))] [13,61,62,63]) (.block 4 (.loop (.seq (r [o 64 (.bin .lss (.t 63) (.t 62))] [13,61,62,63,64]) (.seq (.cond (.t 64) .skip (.exit 4)) (.seq (.block 5 (.seq (r [o 65 (.ixA 6 (.t 61) (.t 63)),o 66 (.ld (some 6) (.t 65)),o 15 (.alloc zP),z (.st 6 (.t 15) (.t 66))] [13,15,61,62,63]) (.seq (.seq (r [o 67 (.mv (.t 13)),o 68 (.lenS (.t 67)),o 69 (.bin .sub (.t 68) (i 1)),o 16 (.mv (.t 69))] [13,15,16,61,62,63]) (.seq (r [o 70 (.mv (.t 16)),o 71 (.bin .geq (.t 70) (i 0)),o 72 (.mv (.t 71)),y 73 72 (.mv (.t 13)),y 74 72 (.mv (.t 16)),y 75 72 (.ixA 6 (.t 73) (.t 74)),y 76 72 (.fA 0 (.t 75)),y 77 72 (.ld (some 3) (.t 76)),y 78 72 (.fA 0 (.t 15)),y 79 72 (.ld (some 3) (.t 78)),y 80 72 (.callF 94 [(.t 77),(.t 79)]),o 81 (.pick (.t 72) (.t 80) (.c (.bool false)))] [13,15,16,61,62,63,81]) (.cond (.t 81) (.seq (r [o 82 (.mv (.t 13)),o 83 (.mv (.t 16)),o 84 (.mv (.t 13)),o 85 (.mv (.t 16)),o 86 (.ixA 6 (.t 84) (.t 85)),o 87 (.fA 3 (.t 86)),o 88 (.ld (some 3) (.t 87)),o 89 (.fA 3 (.t 15)),o 90 (.ld (some 3) (.t 89)),o 91 (.callF 78 [(.t 88),(.t 90)]),o 92 (.ixA 6 (.t 82) (.t 83)),o 93 (.fA 3 (.t 92)),z (.st 3 (.t 93) (.t 91))] [13,61,62,63]) (.exit 5)) .skip))) (r [o 94 (.mv (.t 13)),o 95 (.ld (some 6) (.t 15)),o 96 (.buildSl 6 1 zP [(0,(.t 95))]),o 97 (.app 6 96 (.t 94) (.t 96)),o 13 (.mv (.t 97))] [13,61,62,63])))) (r [o 98 (.bin .add (.t 63) (i 1)),o 63 (.mv (.t 98))] [13,61,62,63]))))))) (.seq (.seq (r [o 99 (.mv (.t 13)),o 100 (.lenS (.t 99)),o 101 (.bin .gtr (.t 100) (i 60))] [13,101]) (.cond (.t 101) (.seq (r [o 4 (.mv (.c .nils)),o 5 (.mv (i 2))] [4,5]) .ret) .skip)) (.seq (r [o 102 (.mv (.t 13)),o 4 (.mv (.t 102)),o 5 (.mv (i 0))] [4,5]) .ret))))))))),[.t 4,.t 5]⟩
theorem privacy_Turn_ok : cFn Tryz.prog (kps [[0,1],[0,1,23],[4,5],[0,1,6],[1,6,24,25,26],[1,6,24,25,26,27],[1,6,8,24,25,26],[1,6,8,9,10,24,25,26],[1,6,8,9,24,25,26,38],[4,5],[1,6,8,24,25,26,39,40,41],[1,6,8,24,25,26,39,40,41,42],[1,6,8,12,24,25,26,39,40,41],[1,6,8,24,25,26,39,40,41],[1,6,8,24,25,26,39,40,41],[1,6,24,25,26],[6],[6,13],[13,61,62,63],[13,61,62,63,64],[13,15,61,62,63],[13,15,16,61,62,63],[13,15,16,61,62,63,81],[13,61,62,63],[13,61,62,63],[13,61,62,63],[13,101],[4,5],[4,5]]) [] 46 = some privacy_Turn_c := by kernel_rfl
end Go.Proofs.YtipbefckimdkkaaGreat.F

namespace Go.Proofs.YtipbefckimdkkaaGreat
open Go Go.Proofs Go.Proofs.YtipbefckimdkkaaGreat.E
set_option linter.unusedSimpArgs false
set_option linter.unusedVariables false
theorem value_SameT {p q : Tr} (hp : p.Ok) (hq : q.Ok) : CallD Tryz.prog F.value_Same [.agg p.cells, .agg q.cells] (· = .bool (decide (p = q))) := by
 refine callD_by F.value_Same_ok ?_
 unfold F.value_Same_c
 simp [setOb, List.filter_cons]
 refine callK_of (value_Compare hp hq) (by simp [toD_cells]) ?_
 simp [cmpT_zero]
@[simp] theorem toD_tblV (σ : Sto) (n : Nat) (f : List Part) (t : List (List Part)) : toD σ (n + 3) (tblV f t) = some (tblV f t) := (rfl)
@[simp] theorem rch_tblV (σ : Sto) (n : Nat) (f : List Part) (t : List (List Part)) : rch σ (n + 3) (tblV f t) = [] := (rfl)
@[simp] theorem tblV_within (f : List Part) (t : List (List Part)) (p : Nat → Bool) : (tblV f t).within p = true := by simp [V.within]
def turnV (tb : Tr → List Part) (l : List Part) : V :=
 if rightP l && l.all (fun p => rightP (tb p.v)) then .tup [pl (normP (turnL tb l)), .int .i64 0] else .tup [.dat [], .int .i64 1]
theorem rowT (u : Tr) (r : Raw) : List.take 3 (u.cells ++ [V.bool false, .nils, .nils]) ++ (r.c ++ List.drop 6 (u.cells ++ [V.bool false, .nils, .nils])) = partC ⟨u, r⟩ := by
 have ed : List.drop 6 (u.cells ++ [V.bool false, .nils, .nils]) = [] := List.drop_eq_nil_of_le (by simp)
 have et3 : List.take 3 (u.cells ++ [V.bool false, .nils, .nils]) = u.cells := List.take_left' (by simp)
 rw [ed, et3, List.append_nil]; rfl
def accB (A : List Part) (p : Part) (X : List Part) (j : Nat) : List Part := A ++ turnR p (X.take j)
theorem accB_zero (A : List Part) (p : Part) (X : List Part) : accB A p X 0 = A := by simp [accB, turnR]
theorem accB_succ {A : List Part} {p : Part} {X : List Part} {j : Nat} (h : j < X.length) : accB A p X (j + 1) = accB A p X j ++ [⟨X[j].v, rawOf (p.w.q * X[j].w.q)⟩] := by
 unfold accB; rw [turnR_take h, List.append_assoc]
theorem accB_all (A : List Part) (p : Part) (X : List Part) : accB A p X X.length = A ++ turnR p X := by
 unfold accB; rw [List.take_length]
structure TurnJ (A : List Part) (m : Nat) (p : Part) (q : Nat) (τ : Sto) : Prop where
 lst : A ≠ [] → E.look τ q = some (obL A)
 part : E.look τ m = some ⟨.own, 6, [partC p]⟩
 ne : A ≠ [] → q ≠ m
 shut : Shut τ
theorem set_last {α : Type} (l : List α) (a b : α) : (l ++ [a]).set l.length b = l ++ [b] := by
 induction l with
 | nil => rfl
 | cons x l ih => simp [ih]
structure JoinI (M : List Part) (q i r : Nat) (G : List Part) (τ : Sto) : Prop where
 le : i ≤ M.length
 lst : E.look τ q = some (obL M)
 out : G ≠ [] → E.look τ r = some (obL G)
 ne : G ≠ [] → r ≠ q
 isn : IsN (M.take i) G
 shut : Shut τ
set_option maxHeartbeats 8000000 in
theorem privacy_Turn {l f : List Part} {t : List (List Part)} (ll : l.length ≤ 10) (lf : f.length ≤ 1000) (lt : t.length ≤ 1000) (lx : ∀ x ∈ t, x.length ≤ 5) (ol : ∀ p ∈ l, p.Ok 3) (of : ∀ p ∈ f, p.v.Ok) (ot : ∀ x ∈ t, ∀ q ∈ x, q.Ok 3) (ml : ∀ p ∈ l, manyT p.v ≤ 60) (mt : ∀ x ∈ t, ∀ q ∈ x, manyT q.v ≤ 60) :
 CallD Tryz.prog F.privacy_Turn [pl l, tblV f t] (· = turnV (tbl f t) l) := by
 have ol6 : ∀ p ∈ l, p.Ok 1000000 := fun p hp => ⟨(ol p hp).v, okMono (ol p hp).w (by omega)⟩
 have htb : ∀ v, (tbl f t v).length ≤ 5 ∧ ∀ q ∈ tbl f t v, q.Ok 3 ∧ manyT q.v ≤ 60 := fun v => by
  rcases tbl_mem (v := v) (f := f) (t := t) with h | h
  ·rw [h]; simp
  ·exact ⟨lx _ h, fun q hq => ⟨ot _ h q hq, mt _ h q hq⟩⟩
 have asked := fun (v : Tr) (hv : v.Ok) (mv : manyT v ≤ 60) => privacy_asked (v := v) (show f.length ≤ 1000000 by omega) (show t.length ≤ 1000000 by omega) of (fun x hx => ⟨by have := lx x hx; omega, fun p hp => ⟨(ot x hx p hp).v, okMono (ot x hx p hp).w (by omega)⟩⟩) hv mv
 refine callD_by F.privacy_Turn_ok ?_
 unfold F.privacy_Turn_c turnV
 generalize tbl f t = tb at *
 simp [setOb, List.filter_cons]
 refine callK_of (couple_Right (by omega) ol6) (by simp) ?_
 cases rl : rightP l with
 | false => simp [setOb, List.filter_cons]
 | true =>
 simp [setOb, List.filter_cons, evBinF]
 refine wm_loop (fun g : Nat × Nat × Sto => ((((((Sl.empty.set 26 (.int .i64 g.1)).set 25 (.int .i64 l.length)).set 24 (pl l)).set 6 (grown g.2.1 (turnL tb (l.take g.1)).length)).set 1 (tblV f t)), g.2.2))
  (fun g => g.1 ≤ l.length ∧ (turnL tb (l.take g.1) ≠ [] → E.look g.2.2 g.2.1 = some (obL (turnL tb (l.take g.1)))) ∧ Shut g.2.2 ∧ ∀ p ∈ l.take g.1, rightP (tb p.v) = true) (fun g => l.length - g.1) (0, 0, [])
  ⟨by simp, by simp [turnL], shut_nil, by simp⟩ ?_ ?_
 ·exact weak_p (by simp only [List.take_zero, turnL, List.flatMap_nil, List.length_nil, grown_zero]; repeat (first | exact sub_empty | refine sub_set (by simp) ?_)) (by simp only [List.take_zero, turnL, List.flatMap_nil, List.length_nil, grown_zero]; repeat (first | exact sin_empty | refine sin_set (by first | exact tblV_within _ _ _ | simp) ?_))
 rintro ⟨i, q, σ⟩ ⟨hi, hlst, hs, hr⟩
 dsimp only at hi hlst hs hr
 have oA := turnL_ok (f := tb) (a := l.take i) (k := 3) (j := 3) (by omega) (by omega) (fun p hp => ol p (List.mem_of_mem_take hp)) fun p hp q hq => ((htb p.v).2 q hq).1
 have lA := turnL_len (f := tb) (a := l.take i) (k := 5) fun p hp => (htb p.v).1
 have lA2 : (turnL tb (l.take i)).length ≤ 50 := by
  rw [List.length_take] at lA
  have : min i l.length * 5 ≤ 10 * 5 := Nat.mul_le_mul (by omega) (by omega)
  omega
 by_cases h1 : i < l.length
 ·have okA := ol _ (List.getElem_mem h1)
  have tkA : List.take 6 (partC l[i]) = partC l[i] := by simp
  have hst := turnL_take (f := tb) h1
  obtain ⟨lX, okX⟩ := htb l[i].v
  simp [h1, E.setOb_setOb]
  refine callK_of (asked _ okA.v (ml _ (List.getElem_mem h1))) (by simp [toD_cells]) ?_
  simp [E.setOb_setOb]
  refine ⟨fun hx => ⟨l[i], List.getElem_mem h1, hx⟩, fun rk => ?_⟩
  generalize hX : tb l[i].v = X at *
  generalize hA : turnL tb (List.take i l) = A at *
  have qf : A ≠ [] → q < fresh σ := fun h => lt_fresh (hlst h)
  refine wm_loop (fun g : Nat × Nat × Sto => ((((((((((Sl.empty.set 41 (.int .i64 g.1)).set 40 (.int .i64 X.length)).set 39 (pl X)).set 26 (.int .i64 i)).set 25 (.int .i64 l.length)).set 24 (pl l)).set 8 (.ptr (fresh σ) 0 0)).set 6 (grown g.2.1 (accB A l[i] X g.1).length)).set 1 (tblV f t)), g.2.2))
   (fun g => g.1 ≤ X.length ∧ TurnJ (accB A l[i] X g.1) (fresh σ) l[i] g.2.1 g.2.2) (fun g => X.length - g.1) (0, q, setOb σ (fresh σ) ⟨.own, 6, [partC l[i]]⟩)
   ⟨by simp, ⟨fun h => ?_, by simp, fun h => ?_, shut_set hs (partC_plain _)⟩⟩ ?_ ?_
  ·simp only [accB_zero] at h ⊢
   have := qf h
   rw [look_setOb, if_neg (by omega)]; exact hlst h
  ·simp only [accB_zero] at h
   have := qf h
   show q ≠ fresh σ
   omega
  ·refine weak_gen ?_ (Has.refl _) (by simp) ?_ (shut_set hs (partC_plain _))
   ·simp only [accB_zero]
    repeat (first | exact sub_empty | refine sub_set (by simp) ?_)
   ·simp only [accB_zero]
    by_cases hA0 : A = []
    ·subst hA0
     simp only [List.length_nil, grown_zero]
     repeat (first | exact sin_empty | refine sin_set (by first | exact tblV_within _ _ _ | (simp; done) | (simp only [within_ref, within_ptr, look_setOb]; simp)) ?_)
    ·have n0 : A.length ≠ 0 := fun e => hA0 (List.length_eq_zero_iff.1 e)
     have hq : E.look (setOb σ (fresh σ) ⟨.own, 6, [partC l[i]]⟩) q = some (obL A) := by
      have := qf hA0
      rw [look_setOb, if_neg (by omega)]; exact hlst hA0
     simp only [grown_pos n0]
     repeat (first | exact sin_empty | refine sin_set (by first | exact tblV_within _ _ _ | (simp; done) | (simp only [within_ref]; rw [hq]; rfl)) ?_)
  rintro ⟨j, q', τ⟩ ⟨hj, I⟩
  dsimp only at hj I
  have hpt := I.part
  have hmt := lt_fresh hpt
  by_cases h2 : j < X.length
  ·obtain ⟨okB, mB⟩ := okX _ (List.getElem_mem h2)
   have tkB : List.take 6 (partC X[j]) = partC X[j] := by simp
   have fo : ¬ fresh σ = fresh τ := by omega
   have fo1 : ¬ fresh σ = fresh τ + 1 := by omega
   have fo2 : ¬ fresh σ = fresh τ + 1 + 1 := by omega
   have hst2 := accB_succ (A := A) (p := l[i]) h2
   have lB : (accB A l[i] X j).length ≤ 60 := by
    unfold accB; rw [List.length_append, turnR_len, List.length_take]; omega
   have next : ∀ (τ' : Sto) (S' : Sl) (q2 : Nat), TurnJ (accB A l[i] X (j + 1)) (fresh σ) l[i] q2 τ' →
    (S' 41 = some (.int .i64 ((j : Int) + 1)) ∧ S' 40 = some (.int .i64 X.length) ∧ S' 39 = some (pl X) ∧ S' 26 = some (.int .i64 i) ∧ S' 25 = some (.int .i64 l.length) ∧ S' 24 = some (pl l) ∧ S' 8 = some (.ptr (fresh σ) 0 0) ∧ S' 6 = some (.ref q2 0 (accB A l[i] X (j + 1)).length) ∧ S' 1 = some (tblV f t)) →
    Again [] (fun g : Nat × Nat × Sto => ((((((((((Sl.empty.set 41 (.int .i64 g.1)).set 40 (.int .i64 X.length)).set 39 (pl X)).set 26 (.int .i64 i)).set 25 (.int .i64 l.length)).set 24 (pl l)).set 8 (.ptr (fresh σ) 0 0)).set 6 (grown g.2.1 (accB A l[i] X g.1).length)).set 1 (tblV f t)), g.2.2))
     (fun g => g.1 ≤ X.length ∧ TurnJ (accB A l[i] X g.1) (fresh σ) l[i] g.2.1 g.2.2) (fun g => X.length - g.1) (j, q', τ) S' τ' := by
    rintro τ' S' q2 I' ⟨s1, s2, s3, s4, s5, s6, s7, s8, s9⟩
    refine ⟨(j + 1, q2, τ'), ⟨h2, I'⟩, by dsimp only; omega, ?_⟩
    have nB : accB A l[i] X (j + 1) ≠ [] := by rw [hst2]; simp
    have n1 : (accB A l[i] X (j + 1)).length ≠ 0 := fun e => nB (List.length_eq_zero_iff.1 e)
    have ho := I'.lst nB
    have hpt' := I'.part
    dsimp only
    rw [grown_pos n1]
    refine weak_gen ?_ (Has.refl _) (by simp) ?_ I'.shut
    ·exact sub_set s9 (sub_set s8 (sub_set s7 (sub_set s6 (sub_set s5 (sub_set s4 (sub_set s3 (sub_set s2 (sub_set s1 sub_empty))))))))
    ·repeat (first | exact sin_empty | refine sin_set (by first | exact tblV_within _ _ _ | (simp; done) | (simp only [within_ref]; rw [ho]; rfl) | (simp only [within_ptr]; rw [hpt']; rfl)) ?_)
   simp [h2, E.setOb_setOb]
   try simp [hpt, fo, getOb, fresh_setOb]
   refine callFK_of (own_Value okB.v mB) (by simp [toD_cells]) ?_
   simp [hpt, fo, getOb, fresh_setOb, frz_nil]
   refine callFK_of (ratio_Mul (okMono okA.w (by omega)) (okMono okB.w (by omega))) (by simp [toD_rawc, raw_v]) ?_
   generalize hB : accB A l[i] X j = B at *
   by_cases hB0 : B = []
   ·subst hB0
    simp (disch := omega) [ratV, raw_v, hpt, fo, fo1, fo2, getOb, fresh_setOb, frz_nil, grown_zero, Nat.max_eq_left, Nat.max_eq_right, if_neg, if_pos, E.setOb_setOb]
    rw [wrap64 (by omega) (by omega), rowT]
    have hs1 : Shut (setOb τ (fresh τ) ⟨.own, 6, [partC X[j]]⟩) := shut_set I.shut (partC_plain _)
    have hs2 := shut_set (o := fresh τ + 1) (x := ⟨.own, 6, [partC ⟨X[j].v, rawOf (l[i].w.q * X[j].w.q)⟩]⟩) hs1 (partC_plain _)
    have hs3 := shut_set (o := fresh τ + 1 + 1) (x := ⟨.own, 6, [partC ⟨X[j].v, rawOf (l[i].w.q * X[j].w.q)⟩]⟩) hs2 (partC_plain _)
    refine next _ _ (fresh τ + 1 + 1) ⟨fun _ => ?_, ?_, fun _ => by omega, hs3⟩ (by simp [hst2])
    ·rw [hst2]; simp [look_setOb, obL]
    ·simp (disch := omega) [look_setOb, hpt, fo, fo1, fo2, if_neg]
   ·have n0 : B.length ≠ 0 := fun e => hB0 (List.length_eq_zero_iff.1 e)
    have hout := I.lst hB0
    have hqt := lt_fresh hout
    have hqm := I.ne hB0
    rw [grown_pos n0]
    simp (disch := omega) [ratV, raw_v, hpt, hout, fo, fo1, fo2, getOb, fresh_setOb, frz_nil, Nat.max_eq_left, Nat.max_eq_right, if_neg, if_pos, E.setOb_setOb]
    rw [wrap64 (by omega) (by omega), rowT]
    have hs1 : Shut (setOb τ (fresh τ) ⟨.own, 6, [partC X[j]]⟩) := shut_set I.shut (partC_plain _)
    have hs2 := shut_set (o := fresh τ + 1) (x := ⟨.own, 6, [partC ⟨X[j].v, rawOf (l[i].w.q * X[j].w.q)⟩]⟩) hs1 (partC_plain _)
    have hs3 := shut_set (o := q') (x := ⟨.dead, 6, []⟩) hs2 (fun r hr y hy f => by simp at hr)
    have hs4 := shut_set (o := fresh τ + 1 + 1) (x := obL (B ++ [⟨X[j].v, rawOf (l[i].w.q * X[j].w.q)⟩])) hs3 (plain_L _)
    have eL : obL (B ++ [⟨X[j].v, rawOf (l[i].w.q * X[j].w.q)⟩]) = ⟨.own, 6, B.map partC ++ [partC ⟨X[j].v, rawOf (l[i].w.q * X[j].w.q)⟩]⟩ := by simp [obL]
    rw [eL] at hs4
    have hmq : ¬ fresh σ = q' := fun h => hqm h.symm
    refine next _ _ (fresh τ + 1 + 1) ⟨fun _ => ?_, ?_, fun _ => by omega, hs4⟩ (by simp [hst2])
    ·rw [hst2, eL]; simp [look_setOb]
    ·simp (disch := omega) [look_setOb, hpt, fo, fo1, fo2, hmq, if_neg]
  ·have hjl : j = X.length := by omega
   subst hjl
   rw [accB_all] at I
   simp only [accB_all]
   generalize hB : A ++ turnR l[i] X = B at *
   simp [h2]
   rw [wrap64 (by omega) (by omega)]
   refine ⟨(i + 1, q', τ), ⟨h1, fun h => ?_, I.shut, fun p hp => ?_⟩, by dsimp only; omega, ?_⟩
   ·dsimp only at h ⊢
    rw [hst] at h ⊢
    exact I.lst h
   ·dsimp only at hp
    rw [List.take_succ_eq_append_getElem h1] at hp
    rcases List.mem_append.1 hp with hp | hp
    ·exact hr p hp
    ·simp at hp; subst hp; rw [hX]; exact rk
   dsimp only
   rw [hst]
   refine weak_gen ?_ (Has.refl _) (by simp) ?_ I.shut
   ·repeat (first | exact sub_empty | refine sub_set (by simp) ?_)
   ·by_cases hB0 : B = []
    ·subst hB0
     simp only [List.length_nil, grown_zero]
     repeat (first | exact sin_empty | refine sin_set (by first | exact tblV_within _ _ _ | simp) ?_)
    ·have n0 : B.length ≠ 0 := fun e => hB0 (List.length_eq_zero_iff.1 e)
     have hq := I.lst hB0
     simp only [grown_pos n0]
     repeat (first | exact sin_empty | refine sin_set (by first | exact tblV_within _ _ _ | (simp; done) | (simp only [within_ref]; rw [hq]; rfl)) ?_)
 ·have hil : i = l.length := by omega
  subst hil
  rw [List.take_length] at hlst hr oA lA lA2
  simp only [List.take_length]
  have gl := good_of rl ol6
  have gt : ∀ p ∈ l, Good (tb p.v) := fun p hp => good_of (hr p hp) fun q hq => ⟨((htb p.v).2 q hq).1.v, okMono ((htb p.v).2 q hq).1.w (by omega)⟩
  have sA := turnL_sum gl.one fun p hp => (gt p hp).one
  have pA := turnL_pos gl.pos fun p hp => (gt p hp).pos
  have nA : ∀ r ∈ turnL tb l, r.w = rawOf r.w.q := turnL_norm
  have hall : ∀ x ∈ l, rightP (tb x.v) = true := hr
  generalize hA : turnL tb l = A at *
  have hA0 : A ≠ [] := fun h => by rw [h] at sA; simp [sumQ] at sA
  have n0 : A.length ≠ 0 := fun e => hA0 (List.length_eq_zero_iff.1 e)
  have hq := hlst hA0
  rw [grown_pos n0]
  simp [h1]
  refine callK_X (sort_Part (by omega) (fun p hp => (oA p hp).v) hq hs) ?_
  rintro r s ⟨rfl, M, rfl, hM, hS⟩
  have lM : M.length = A.length := hM.length_eq
  have oM : ∀ p ∈ M, p.Ok 6 := fun p hp => oA p (hM.mem_iff.1 hp)
  have pM : ∀ p ∈ M, 0 < p.w.q := fun p hp => pA p (hM.mem_iff.1 hp)
  have nM : ∀ p ∈ M, p.w = rawOf p.w.q := fun p hp => nA p (hM.mem_iff.1 hp)
  have eN : normP A = normP M := norm_perm hM.symm
  rw [eN, ← lM]
  simp
  refine wm_loop (fun g : Nat × Nat × List Part × Sto => (((((Sl.empty.set 63 (.int .i64 g.1)).set 62 (.int .i64 M.length)).set 61 (.ref q 0 M.length)).set 13 (grown g.2.1 g.2.2.1.length)), g.2.2.2))
   (fun g => JoinI M q g.1 g.2.1 g.2.2.1 g.2.2.2) (fun g => M.length - g.1) (0, 0, [], setOb σ q (obL M))
   ⟨by simp, by simp [look_setOb], by simp, by simp, by simpa using IsN.nil, shut_set hs (plain_L _)⟩ ?_ ?_
  ·refine weak_gen ?_ (Has.refl _) (by simp) ?_ (shut_set hs (plain_L _))
   ·simp only [List.length_nil, grown_zero]
    repeat (first | exact sub_empty | refine sub_set (by simp) ?_)
   ·simp only [List.length_nil, grown_zero]
    repeat (first | exact sin_empty | refine sin_set (by first | (simp; done) | (simp only [within_ref, look_setOb]; simp)) ?_)
  rintro ⟨i, r, G, τ⟩ I
  dsimp only at I
  have hpq := I.lst
  have lq := lt_fresh hpq
  by_cases h2 : i < M.length
  ·have okp := oM _ (List.getElem_mem h2)
   have tkM : List.take 6 (partC M[i]) = partC M[i] := by simp
   have hJ := isN_join I.isn (fun x hx => pM x (List.mem_of_mem_take hx)) (pM _ (List.getElem_mem h2)) (nM _ (List.getElem_mem h2)) (fun x hx => by
    obtain ⟨k, hk, rfl⟩ := List.getElem_of_mem hx
    rw [List.length_take] at hk
    rw [List.getElem_take]
    exact hS k i _ _ (by omega) (by omega) h2 (List.getElem?_eq_getElem (by omega)) (List.getElem?_eq_getElem h2))
   rw [← List.take_succ_eq_append_getElem h2] at hJ
   have fq : ¬ q = fresh τ := by omega
   have fq' : ¬ fresh τ = q := by omega
   have next : ∀ (G0 : List Part) (τ' : Sto) (S' : Sl) (r2 : Nat) (H : List Part), H ≠ [] → JoinI M q (i + 1) r2 H τ' →
    (S' 63 = some (.int .i64 ((i : Int) + 1)) ∧ S' 62 = some (.int .i64 M.length) ∧ S' 61 = some (.ref q 0 M.length) ∧ S' 13 = some (.ref r2 0 H.length)) →
    Again [] (fun g : Nat × Nat × List Part × Sto => (((((Sl.empty.set 63 (.int .i64 g.1)).set 62 (.int .i64 M.length)).set 61 (.ref q 0 M.length)).set 13 (grown g.2.1 g.2.2.1.length)), g.2.2.2))
     (fun g => JoinI M q g.1 g.2.1 g.2.2.1 g.2.2.2) (fun g => M.length - g.1) (i, r, G0, τ) S' τ' := by
    rintro G0 τ' S' r2 H hH I' ⟨s1, s2, s3, s4⟩
    refine ⟨(i + 1, r2, H, τ'), I', by dsimp only; omega, ?_⟩
    have n1 : H.length ≠ 0 := fun e => hH (List.length_eq_zero_iff.1 e)
    have ho := I'.out hH
    have hl := I'.lst
    dsimp only
    rw [grown_pos n1]
    refine weak_gen ?_ (Has.refl _) (by simp) ?_ I'.shut
    ·exact sub_set s4 (sub_set s3 (sub_set s2 (sub_set s1 sub_empty)))
    ·repeat (first | exact sin_empty | refine sin_set (by first | (simp; done) | (simp only [within_ref]; rw [ho]; rfl) | (simp only [within_ref]; rw [hl]; rfl)) ?_)
   have hs1 : Shut (setOb τ (fresh τ) ⟨.own, 6, [partC M[i]]⟩) := shut_set I.shut (partC_plain _)
   have hs2 := shut_set (o := fresh τ + 1) (x := ⟨.own, 6, [partC M[i]]⟩) hs1 (partC_plain _)
   rcases List.eq_nil_or_concat G with rfl | ⟨G', x, hG⟩
   ·rw [joinP_nil] at hJ
    simp only [List.length_nil, grown_zero]
    have w1 : IntKind.i64.wrap (-1) = -1 := wrap64 (by omega) (by omega)
    simp [h2, hpq, getOb, fq, fq', w1, E.setOb_setOb]
    simp (disch := omega) [hpq, getOb, fq, fq', fresh_setOb, grown_zero, Nat.max_eq_left, Nat.max_eq_right, if_neg, if_pos, E.setOb_setOb]
    rw [wrap64 (by omega) (by omega)]
    have hs3 := shut_set (o := fresh τ + 1 + 1) (x := ⟨.own, 6, [partC M[i]]⟩) hs2 (partC_plain _)
    refine next [] _ _ (fresh τ + 1 + 1) [M[i]] (by simp) ⟨h2, ?_, fun _ => by simp [look_setOb, obL], fun _ => by omega, hJ, hs3⟩ (by simp)
    simp (disch := omega) [look_setOb, hpq, fq, if_neg]
   ·rw [List.concat_eq_append] at hG
    subst hG
    have hG0 : G' ++ [x] ≠ [] := by simp
    have hout := I.out hG0
    have hrq := I.ne hG0
    have lr := lt_fresh hout
    have fr : ¬ r = fresh τ := by omega
    have fr' : ¬ fresh τ = r := by omega
    have nG : (G' ++ [x]).length ≠ 0 := by simp
    rw [grown_pos nG]
    have lG : (G' ++ [x]).length ≤ 50 := by
     have h5 := normP_len (M.take i)
     rw [← I.isn.norm, List.length_take] at h5
     omega
    have lG' : G'.length ≤ 50 := by simp at lG; omega
    have w1 : IntKind.i64.wrap (G'.length : Int) = G'.length := wrap64 (by omega) (by omega)
    have okx : x.v.Ok ∧ x.w.Ok (2 ^ 31) := by
     have e := I.isn.norm
     have h5 := normP_oks (show 1 ≤ 6 by omega) (fun p hp => oM p (List.mem_of_mem_take hp)) x (by rw [← e]; simp)
     have : (M.take i).length ≤ 50 := by rw [List.length_take]; omega
     exact ⟨h5.v, okMono h5.w (by omega)⟩
    have i1 : (G'.length : Int) < G'.length + 1 := by omega
    have gx : (List.map partC G' ++ [partC x])[G'.length]? = some (partC x) := by
     rw [List.getElem?_append_right (by simp)]; simp
    have tkx : List.take 6 (partC x) = partC x := by simp
    simp [h2, hpq, hout, getOb, fq, fq', fr, fr', w1, i1, gx, E.setOb_setOb]
    refine callFK_of (value_SameT okx.1 okp.v) (by simp [toD_cells]) ?_
    by_cases c : x.v = M[i].v
    ·rw [joinP_eq c] at hJ
     simp [c, hpq, hout, getOb, fq, fq', fr, fr', w1, i1, gx, frz_nil, E.setOb_setOb]
     refine callFK_of (ratio_Add okx.2 (okMono okp.w (by omega))) (by simp [toD_rawc, raw_v]) ?_
     simp (disch := omega) [ratV, raw_v, hpq, hout, getOb, fq, fq', fr, fr', w1, i1, gx, frz_nil, if_neg, if_pos, E.setOb_setOb]
     rw [wrap64 (by omega) (by omega)]
     have eS : (List.map partC G' ++ [partC x]).set G'.length (x.v.cells ++ (rawOf (x.w.q + M[i].w.q)).c) = (G' ++ [(⟨x.v, rawOf (x.w.q + M[i].w.q)⟩ : Part)]).map partC := by
      have h5 := set_last (G'.map partC) (partC x) (x.v.cells ++ (rawOf (x.w.q + M[i].w.q)).c)
      rw [List.length_map] at h5
      rw [h5, List.map_append]; rfl
     rw [eS]
     have hs3 := shut_set (o := r) (x := obL (G' ++ [⟨x.v, rawOf (x.w.q + M[i].w.q)⟩])) hs1 (plain_L _)
     refine next _ _ _ r (G' ++ [⟨x.v, rawOf (x.w.q + M[i].w.q)⟩]) (by simp) ⟨h2, ?_, fun _ => by simp [look_setOb, obL], fun _ => hrq, hJ, hs3⟩ (by simp)
     have hqr : ¬ q = r := fun h => hrq h.symm
     simp (disch := omega) [look_setOb, hpq, fq, hqr, if_neg]
    ·rw [joinP_ne c] at hJ
     simp [c, hpq, hout, getOb, fq, fq', fr, fr', w1, i1, gx, frz_nil, E.setOb_setOb]
     simp (disch := omega) [hpq, hout, getOb, fq, fq', fr, fr', fresh_setOb, Nat.max_eq_left, Nat.max_eq_right, if_neg, if_pos, E.setOb_setOb]
     rw [wrap64 (by omega) (by omega)]
     have hs3 := shut_set (o := r) (x := ⟨.dead, 6, []⟩) hs2 (fun r hr y hy f => by simp at hr)
     have hs4 := shut_set (o := fresh τ + 1 + 1) (x := obL (G' ++ [x] ++ [M[i]])) hs3 (plain_L _)
     have eL : obL (G' ++ [x] ++ [M[i]]) = ⟨.own, 6, List.map partC G' ++ [partC x, partC M[i]]⟩ := by simp [obL]
     rw [eL] at hs4
     have hqr : ¬ q = r := fun h => hrq h.symm
     refine next _ _ _ (fresh τ + 1 + 1) (G' ++ [x] ++ [M[i]]) (by simp) ⟨h2, ?_, fun _ => by rw [eL]; simp [look_setOb], fun _ => by omega, hJ, hs4⟩ (by simp)
     simp (disch := omega) [look_setOb, hpq, fq, hqr, if_neg]
  ·have him : i = M.length := by have := I.le; omega
   subst him
   have isn := I.isn
   rw [List.take_length] at isn
   have hout := I.out
   rw [← isn.norm]
   have lG : G.length ≤ 50 := by
    have h5 := normP_len M
    rw [← isn.norm] at h5
    omega
   have hb : ¬ (60 : Int) < G.length := by omega
   by_cases hG0 : G = []
   ·subst hG0
    rw [if_pos hall]
    simp only [List.length_nil, grown_zero]
    simp [h2]
   ·have n1 : G.length ≠ 0 := fun e => hG0 (List.length_eq_zero_iff.1 e)
    rw [grown_pos n1, if_pos hall]
    simp [h2, hb]
    rw [E.toD_ref (k := 10) (st := .own) (es := 6) (l := G.map partC) (hout hG0) (by simp) (by simp) (by simp) (by simp [hG0]) (fun r hr => by obtain ⟨p, _, rfl⟩ := List.mem_map.1 hr; exact toD_partC _ _ _)]
end Go.Proofs.YtipbefckimdkkaaGreat
