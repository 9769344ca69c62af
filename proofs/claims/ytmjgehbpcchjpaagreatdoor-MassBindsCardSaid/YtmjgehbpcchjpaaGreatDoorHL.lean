import Derived.Test.YtmjgehbpcchjpaaGreatDoorHK
import Derived.Test.YtmjgehbpcchjpaaGreatDoorGC
import Derived.Test.YtmjgehbpcchjpaaGreatDoorProg
import Derived.KernelRfl
import Derived.Test.YtmjgehbpcchjpaaGreatDoorGL
namespace Go.Proofs.YtmjgehbpcchjpaaGreatDoor.F
open Go Go.Proofs Go.Proofs.YtmjgehbpcchjpaaGreatDoor.E Go.Proofs.YtmjgehbpcchjpaaGreatDoor.Q
abbrev weights_come : Nat := 128
def weights_come_c : MFn := ⟨85,(.seq (r [o 1 (.box (.t 0)),o 2 (.alloc zM)] [1,2]) (.seq (r [o 9 (.fA 0 (.t 1)),o 10 (.ld none (.t 9)),o 11 (.call 164 [(.t 10)]),o 3 (.mv (.t 11))] [1,2,3]) (.seq (r [o 12 (.mv (.t 3)),o 13 (.call 165 [(.t 12),(.c (.clo 166 []))])] [1,2,3]) (.seq (r [o 14 (.fA 1 (.t 1)),o 15 (.ld (some 3) (.t 14)),o 16 (.callF 45 []),o 17 (.callF 40 [(.t 15),(.t 16)]),o 18 (.fA 4 (.t 1)),o 19 (.ld (some 3) (.t 18)),o 20 (.callF 45 []),o 21 (.callF 40 [(.t 19),(.t 20)]),o 22 (.build zM [(1,3,(.t 17)),(4,3,(.t 21))]),o 4 (.alloc zM),z (.st 16 (.t 4) (.t 22))] [1,2,3,4]) (.seq (.seq (r [o 23 (.mv (i 0))] [1,2,3,4,23]) (.block 0 (.loop (.seq (r [o 24 (.bin .lss (.t 23) (i 3))] [1,2,3,4,23,24]) (.seq (.cond (.t 24) .skip (.exit 0)) (.seq (.block 1 (.seq (r [o 25 (.mv (.t 23)),o 5 (.mv (.t 25))] [1,2,3,4,5,23]) (r [o 26 (.mv (.t 5)),o 27 (.mv (.t 5)),o 28 (.fA 7 (.t 1)),o 29 (.ixArr 3 3 (.t 28) (.t 27)),o 30 (.ld (some 3) (.t 29)),o 31 (.callF 45 []),o 32 (.callF 40 [(.t 30),(.t 31)]),o 33 (.fA 7 (.t 4)),o 34 (.ixArr 3 3 (.t 33) (.t 26)),z (.st 3 (.t 34) (.t 32))] [1,2,3,4,23]))) (r [o 35 (.bin .add (.t 23) (i 1)),o 23 (.mv (.t 35))] [1,2,3,4,23]))))))) (.seq (.seq (r [o 6 (.mv (i 0))] [2,3,4,6]) (.block 2 (.loop (.seq (.seq (r [o 36 (.mv (.t 6)),o 37 (.mv (.t 3)),o 38 (.lenS (.t 37)),o 39 (.bin .lss (.t 36) (.t 38))] [2,3,4,6,39]) (.cond (.t 39) .skip (.exit 2))) (.block 3 (.seq (r [o 40 (.mv (.t 6)),o 7 (.mv (.t 40))] [2,3,4,6,7]) (.seq (r [o 41 (.call 45 []),o 8 (.alloc zR),z (.st 3 (.t 8) (.t 41))] [2,3,4,6,7,8]) (.seq (.block 4 (.loop (.seq (.seq (r [o 42 (.mv (.t 7)),o 43 (.mv (.t 3)),o 44 (.lenS (.t 43)),o 45 (.bin .lss (.t 42) (.t 44)),o 46 (.mv (.t 45)),y 47 46 (.mv (.t 3)),y 48 46 (.mv (.t 7)),y 49 46 (.ixA 6 (.t 47) (.t 48)),y 50 46 (.fA 0 (.t 49)),y 51 46 (.ld (some 3) (.t 50)),y 52 46 (.mv (.t 3)),y 53 46 (.mv (.t 6)),y 54 46 (.ixA 6 (.t 52) (.t 53)),y 55 46 (.fA 0 (.t 54)),y 56 46 (.ld (some 3) (.t 55)),y 57 46 (.callF 140 [(.t 51),(.t 56)]),o 58 (.pick (.t 46) (.t 57) (.c (.bool false)))] [2,3,4,6,7,8,58]) (.cond (.t 58) .skip (.exit 4))) (.seq (.block 5 (r [o 61 (.ld (some 3) (.t 8)),o 62 (.mv (.t 3)),o 63 (.mv (.t 7)),o 64 (.ixA 6 (.t 62) (.t 63)),o 65 (.fA 3 (.t 64)),o 66 (.ld (some 3) (.t 65)),o 67 (.callF 40 [(.t 61),(.t 66)]),z (.st 3 (.t 8) (.t 67))] [2,3,4,6,7,8])) (r [o 59 (.mv (.t 7)),o 60 (.bin .add (.t 59) (i 1)),o 7 (.mv (.t 60))] [2,3,4,6,7,8]))))) (.seq (.seq (r [o 68 (.ld (some 3) (.t 8)),o 69 (.call 36 [(.t 68)]),o 70 (.bin .neq (.t 69) (i 0))] [2,3,4,6,7,8,70]) (.cond (.t 70) (r [o 71 (.fA 0 (.t 4)),o 72 (.ld none (.t 71)),o 73 (.mv (.t 3)),o 74 (.mv (.t 6)),o 75 (.ixA 6 (.t 73) (.t 74)),o 76 (.fA 0 (.t 75)),o 77 (.ld (some 3) (.t 76)),o 78 (.ld (some 3) (.t 8)),o 79 (.build zP [(0,3,(.t 77)),(3,3,(.t 78))]),o 80 (.buildSl 6 1 zP [(0,(.t 79))]),o 81 (.app 6 96 (.t 72) (.t 80)),o 82 (.fA 0 (.t 4)),z (.st 1 (.t 82) (.t 81))] [2,3,4,7]) .skip)) (r [o 83 (.mv (.t 7)),o 6 (.mv (.t 83))] [2,3,4,6])))))))))) (.seq (r [o 84 (.ld (some 16) (.t 4)),z (.st 16 (.t 2) (.t 84))] [2]) .ret))))))),[.cell 2 (some 16)]⟩
theorem weights_come_ok : cFn Tryz.prog (kps [[1,2],[1,2,3],[1,2,3],[1,2,3,4],[1,2,3,4,23],[1,2,3,4,23,24],[1,2,3,4,5,23],[1,2,3,4,23],[1,2,3,4,23],[2,3,4,6],[2,3,4,6,39],[2,3,4,6,7],[2,3,4,6,7,8],[2,3,4,6,7,8,58],[2,3,4,6,7,8],[2,3,4,6,7,8],[2,3,4,6,7,8,70],[2,3,4,7],[2,3,4,6],[2]]) [] 128 = some weights_come_c := by kernel_rfl
end Go.Proofs.YtmjgehbpcchjpaaGreatDoor.F

namespace Go.Proofs.YtmjgehbpcchjpaaGreatDoor
open Go Go.Proofs Go.Proofs.YtmjgehbpcchjpaaGreatDoor.E
set_option linter.unusedSimpArgs false
set_option linter.unusedVariables false
structure Ms where
 parts : List Part
 rf : Raw
 lo : Raw
 f0 : Raw
 f1 : Raw
 f2 : Raw
def am (a b c d e : Raw) : List V := [.bool a.neg, nat a.num, nat a.den, .bool b.neg, nat b.num, nat b.den, .bool c.neg, nat c.num, nat c.den, .bool d.neg, nat d.num, nat d.den, .bool e.neg, nat e.num, nat e.den]
def msC (m : Ms) : List V := pl m.parts :: am m.rf m.lo m.f0 m.f1 m.f2
abbrev Ms.v (m : Ms) : V := .agg (msC m)
def az : List V := [.nils, .bool false, .nils, .nils, .bool false, .nils, .nils, .bool false, .nils, .nils, .bool false, .nils, .nils, .bool false, .nils, .nils]
def aQ (a b c d e : Raw) (g : Nat) : List V :=
 [.bool a.neg, nat a.num, nat a.den, .bool b.neg, nat b.num, nat b.den] ++
 (if g ≤ 0 then [.bool false, .nils, .nils] else [.bool c.neg, nat c.num, nat c.den]) ++
 (if g ≤ 1 then [.bool false, .nils, .nils] else [.bool d.neg, nat d.num, nat d.den]) ++
 (if g ≤ 2 then [.bool false, .nils, .nils] else [.bool e.neg, nat e.num, nat e.den])
structure Ms.Ok (m : Ms) (k : Nat) : Prop where
 parts : ∀ p ∈ m.parts, p.v.Ok ∧ p.w.Ok k
 rf : m.rf.Ok k
 lo : m.lo.Ok k
 f0 : m.f0.Ok k
 f1 : m.f1.Ok k
 f2 : m.f2.Ok k
def aI (m : Ms) : Ms := ⟨aL m.parts, ao m.rf.q, ao m.lo.q, ao m.f0.q, ao m.f1.q, ao m.f2.q⟩
structure CI (M : List Part) (R : List V) (i : Nat) (G : List Part) (q : Nat) (τ : Sto) : Prop where
 le : i ≤ M.length
 lst : E.look τ 2 = some (obL M)
 out : E.look τ 3 = some ⟨.own, 16, [bl q G.length :: R]⟩
 prt : G ≠ [] → E.look τ q = some (obL G)
 q2 : G ≠ [] → q ≠ 2 ∧ q ≠ 3 ∧ q ≠ 1
 isn : IsN (M.take i) G
 res : E.look τ 1 = some ⟨.own, 16, [az]⟩
 shut : bV τ
 bnd : ∀ p ∈ M.take i, ∀ h : i < M.length, bJ p.v M[i].v < 0
def comeL (M : List Part) (q n i : Nat) : Sl := (((Sl.empty.set 6 (.int .i64 i)).set 4 (.ptr 3 0 0)).set 3 (.ref 2 0 M.length)).set 2 (.ptr 1 0 0)
theorem eo : (ao 0) = ⟨false, [], [1]⟩ := by
 rw [gI]
 rw [b8 (by omega)]
 simp
theorem aK {σ : Sto} {o : Nat} {x : Ob} (h : bV σ) (hx : dV x.cells) : bV ((o, x) :: σ) := by
 intro p y hp hd r hr z hz
 simp only [E.look] at hp
 split at hp
 ·injection hp with hp; subst hp
  exact hx r hr z hz _
 ·refine iv (h p y hp hd r hr z hz) fun q hq => ?_
  simp only [E.look]
  split
  ·rfl
  ·exact hq
theorem av {l : List V} (h : ∀ y ∈ l, ∀ f : Nat → Bool, y.within f = true) : dV [l] := by
 intro r hr y hy f
 simp at hr; subst hr
 exact h y hy f
theorem bL (a b c d e : Raw) : ∀ y ∈ am a b c d e, ∀ f : Nat → Bool, y.within f = true := by simp [am, V.within]
theorem cH (a b c d e : Raw) (g : Nat) : ∀ y ∈ V.nils :: aQ a b c d e g, ∀ f : Nat → Bool, y.within f = true := by
 unfold aQ
 by_cases h0 : g ≤ 0 <;> by_cases h1 : g ≤ 1 <;> by_cases h2 : g ≤ 2 <;> simp [h0, h1, h2, V.within]
theorem bS (m : Ms) : ∀ y ∈ msC m, ∀ f : Nat → Bool, y.within f = true := by
 intro y hy f
 simp only [msC, List.mem_cons] at hy
 rcases hy with rfl | hy
 ·simp [V.within]
 ·exact bL _ _ _ _ _ y hy f
theorem bC : ∀ y ∈ az, ∀ f : Nat → Bool, y.within f = true := by simp [az, V.within]
theorem eW {σ : Sto} {o : Nat} {x : Ob} (h : bV σ) (hx : ∀ r ∈ x.cells, ∀ y ∈ r, y.within (fun q => (E.look (ag σ o x) q).isSome) = true) : bV (ag σ o x) := by
 intro p y hp hd r hr z hz
 rw [ab] at hp
 split at hp
 ·injection hp with hp; subst hp; exact hx r hr z hz
 ·exact jx (h p y hp hd r hr z hz)
theorem dU : bV ([] : Sto) := fun p y hp => by simp [E.look] at hp
theorem nw {K : Nat} (hK31 : K ≤ 2 ^ 31) {x : Raw} (hx : x.Ok K) : CallD Tryz.prog F.ratio_Add [x.v, (ao 0).v] (· = bb x.q) := by
 have := ratio_Add (rok hx hK31) (bw (fits_zero.mono (show 1 ≤ 2 ^ 31 by omega)))
 rwa [be, Rat.add_zero] at this
theorem bc (σ : Sto) (o : Nat) (x : Ob) : fresh (ag σ o x) = max (o + 1) (fresh σ) := by
 have := eT σ o
 simp only [ag, fresh]
 exact this
def pa (τ : Sto) (w : Ob) (P R : List V) : Sto := ag (ag (ag (ag τ (fresh τ) w) (fresh τ + 1) ⟨.own, 6, [P]⟩) (fresh τ + 1 + 1) ⟨.own, 6, [P]⟩) 3 ⟨.own, 16, [V.ref (fresh τ + 1 + 1) 0 1 :: R]⟩
def jo (τ : Sto) (w : Ob) (P R : List V) (q : Nat) (G : List (List V)) : Sto := ag (ag (ag (ag (ag τ (fresh τ) w) (fresh τ + 1) ⟨.own, 6, [P]⟩) q ⟨.dead, 6, []⟩) (fresh τ + 1 + 1) ⟨.own, 6, G ++ [P]⟩) 3 ⟨.own, 16, [V.ref (fresh τ + 1 + 1) 0 (G.length + 1) :: R]⟩
theorem oe {τ : Sto} {w : Ob} {P R : List V} (h : 3 < fresh τ) : E.look (pa τ w P R) 1 = E.look τ 1 ∧ E.look (pa τ w P R) 2 = E.look τ 2 ∧ E.look (pa τ w P R) 3 = some ⟨.own, 16, [V.ref (fresh τ + 1 + 1) 0 1 :: R]⟩ ∧ E.look (pa τ w P R) (fresh τ + 1 + 1) = some ⟨.own, 6, [P]⟩ := by
 unfold pa
 refine ⟨?_, ?_, ?_, ?_⟩
 ·rw [ab, if_neg (by omega), ab, if_neg (by omega), ab, if_neg (by omega), ab, if_neg (by omega)]
 ·rw [ab, if_neg (by omega), ab, if_neg (by omega), ab, if_neg (by omega), ab, if_neg (by omega)]
 ·rw [ab, if_pos rfl]
 ·rw [ab, if_neg (by omega), ab, if_pos rfl]
theorem oh {τ : Sto} {w : Ob} {P R : List V} {q : Nat} {G : List (List V)} (h : 3 < fresh τ) (hq : q < fresh τ) (q1 : q ≠ 1) (q2 : q ≠ 2) (q3 : q ≠ 3) : E.look (jo τ w P R q G) 1 = E.look τ 1 ∧ E.look (jo τ w P R q G) 2 = E.look τ 2 ∧ E.look (jo τ w P R q G) 3 = some ⟨.own, 16, [V.ref (fresh τ + 1 + 1) 0 (G.length + 1) :: R]⟩ ∧ E.look (jo τ w P R q G) (fresh τ + 1 + 1) = some ⟨.own, 6, G ++ [P]⟩ := by
 unfold jo
 refine ⟨?_, ?_, ?_, ?_⟩
 ·rw [ab, if_neg (by omega), ab, if_neg (by omega), ab, if_neg (by omega), ab, if_neg (by omega), ab, if_neg (by omega)]
 ·rw [ab, if_neg (by omega), ab, if_neg (by omega), ab, if_neg (by omega), ab, if_neg (by omega), ab, if_neg (by omega)]
 ·rw [ab, if_pos rfl]
 ·rw [ab, if_neg (by omega), ab, if_pos rfl]
theorem og {τ : Sto} {w : Ob} {P R : List V} (h : bV τ) (hw : dV w.cells) (hP : dV [P]) (hR : ∀ y ∈ R, ∀ f : Nat → Bool, y.within f = true) : bV (pa τ w P R) := by
 unfold pa
 refine eW (aE (aE (aE h hw) hP) hP) fun r hr y hy => ?_
 simp only [List.mem_singleton] at hr; subst hr
 rcases List.mem_cons.1 hy with rfl | hy
 ·simp only [bA, ab]
  split <;> simp
 ·exact hR y hy _
theorem oi {τ : Sto} {w : Ob} {P R : List V} {q : Nat} {G : List (List V)} (h : bV τ) (hw : dV w.cells) (hP : dV [P]) (hG : dV G) (hR : ∀ y ∈ R, ∀ f : Nat → Bool, y.within f = true) : bV (jo τ w P R q G) := by
 unfold jo
 refine eW (aE (eW (aE (aE h hw) hP) (fun r hr => by simp at hr)) (fun r hr y hy f => ?_)) fun r hr y hy => ?_
 ·rcases List.mem_append.1 hr with hr | hr
  ·exact hG r hr y hy f
  ·exact hP r hr y hy f
 ·simp only [List.mem_singleton] at hr; subst hr
  rcases List.mem_cons.1 hy with rfl | hy
  ·simp only [bA, ab]
   split <;> simp
  ·exact hR y hy _
def grp (M : List Part) (i k : Nat) : List Part := (M.take k).drop i
theorem pR (M : List Part) (i : Nat) : grp M i i = [] := List.drop_eq_nil_of_le (by simp; omega)
theorem pS {M : List Part} {i k : Nat} (h : i ≤ k) (hk : k < M.length) : grp M i (k + 1) = grp M i k ++ [M[k]] := by
 unfold grp
 rw [List.take_succ_eq_append_getElem hk, List.drop_append_of_le_length (by simp; omega)]
theorem qu {M : List Part} {i k : Nat} (h : i ≤ k) : M.take k = M.take i ++ grp M i k := by
 unfold grp
 have : M.take i = (M.take k).take i := by rw [List.take_take, Nat.min_eq_left h]
 rw [this, List.take_append_drop]
theorem grp_mem {M : List Part} {i k : Nat} {p : Part} (h : p ∈ grp M i k) : p ∈ M := List.mem_of_mem_take (List.mem_of_mem_drop h)
theorem grp_len (M : List Part) (i k : Nat) : (grp M i k).length ≤ M.length := by unfold grp; simp; omega
set_option maxHeartbeats 16000000 in
theorem weights_come {m : Ms} {K : Nat} (h0 : m.parts ≠ []) (hK : 1 ≤ K) (hp : ∀ p ∈ m.parts, p.v.Ok ∧ p.w.Ok K) (hm : m.Ok (2 ^ 31)) (hb : 1 + m.parts.length * (K + 1) ≤ 2 ^ 31) (hn : m.parts.length ≤ 1000000) : CallD Tryz.prog F.weights_come [m.v] (· = (aI m).v) := by
 have hK31 : K ≤ 2 ^ 31 := by
  cases hp : m.parts with
  | nil => exact (h0 hp).elim
  | cons a l => rw [hp] at hb; simp at hb; have := Nat.le_mul_of_pos_left (K + 1) (show 0 < l.length + 1 by omega); omega
 refine aB F.weights_come_ok ?_
 unfold F.weights_come_c
 simp [ag, List.filter_cons, msC, am]
 refine cB (qP h0 hn) ?_
 rintro r s ⟨rfl, rfl⟩
 simp
 refine cB (sX hn (fun p h => (hp p h).1) (by simp [E.look, ag]) ?_) ?_
 ·exact aE (aK (aK dU (av (bS m))) (av bC)) (aW _)
 rintro r s ⟨rfl, M, rfl, hM, hS⟩
 have lM : M.length = m.parts.length := hM.length_eq
 have okM : ∀ p ∈ M, p.v.Ok ∧ p.w.Ok K := fun p h => hp p (hM.mem_iff.1 h)
 have z : (ao 0).v = .agg [.bool false, nat [], nat [1]] := by rw [eo]; rfl
 simp [ag, List.filter_cons]
 refine ak ratio_Zero (by simp) ?_
 simp [bb, z]
 refine ak (nw (Nat.le_refl _) hm.rf) (by simp [eo, Raw.v]) ?_
 simp [bb]
 refine ak ratio_Zero (by simp) ?_
 simp [bb, z]
 refine ak (nw (Nat.le_refl _) hm.lo) (by simp [eo, Raw.v]) ?_
 simp [bb, Raw.v, ag, List.filter_cons]
 refine aH (fun g : Nat => (((((Sl.empty.set 23 (.int .i64 g)).set 4 (.ptr 3 0 0)).set 3 (.ref 2 0 m.parts.length)).set 2 (.ptr 1 0 0)).set 1 (.ptr 0 0 0),
  [(3, ⟨.own, 16, [.nils :: aQ (ao m.rf.q) (ao m.lo.q) (ao m.f0.q) (ao m.f1.q) (ao m.f2.q) g]⟩), (2, obL M), (1, ⟨.own, 16, [az]⟩), (0, ⟨.own, 16, [msC m]⟩)]))
  (fun g => g ≤ 3) (fun g => 3 - g) 0 (by omega) ?_ ?_
 ·refine aO ?_ ?_ (by simp) ?_ ?_
  ·repeat (first | exact af | refine aj (by simp) ?_)
  ·intro o x ho
   simpa [aQ, az, msC, am] using ho
  ·repeat (first | exact ac | refine ah (by simp [V.within, E.look]) ?_)
  ·refine aK (aK (aK (aK dU (av (bS m))) (av bC)) (aW _)) (av (cH _ _ _ _ _ _))
 intro g hg
 by_cases c : g < 3
 ·have hg3 : g = 0 ∨ g = 1 ∨ g = 2 := by omega
  rcases hg3 with rfl | rfl | rfl
  ·simp [aQ, msC, am, az]
   refine ak ratio_Zero (by simp) ?_
   simp [bb, z]
   refine ak (nw (Nat.le_refl _) hm.f0) (by simp [eo, Raw.v]) ?_
   simp [bb, Raw.v, ag, List.filter_cons]
   rw [ap (by omega) (by omega)]
   refine ⟨1, by omega, by dsimp only; omega, ?_⟩
   refine aO ?_ ?_ (by simp) ?_ (aK (aK (aK (aK dU (av (by simp [V.within]))) (av (by simp [V.within]))) (aW _)) (av (by simp [V.within])))
   ·repeat (first | exact af | refine aj (by simp) ?_)
   ·intro o x ho
    simpa [aQ, az, msC, am] using ho
   ·repeat (first | exact ac | refine ah (by simp [V.within, E.look]) ?_)
  ·simp [aQ, msC, am, az]
   refine ak ratio_Zero (by simp) ?_
   simp [bb, z]
   refine ak (nw (Nat.le_refl _) hm.f1) (by simp [eo, Raw.v]) ?_
   simp [bb, Raw.v, ag, List.filter_cons]
   rw [ap (by omega) (by omega)]
   refine ⟨2, by omega, by dsimp only; omega, ?_⟩
   refine aO ?_ ?_ (by simp) ?_ (aK (aK (aK (aK dU (av (by simp [V.within]))) (av (by simp [V.within]))) (aW _)) (av (by simp [V.within])))
   ·repeat (first | exact af | refine aj (by simp) ?_)
   ·intro o x ho
    simpa [aQ, az, msC, am] using ho
   ·repeat (first | exact ac | refine ah (by simp [V.within, E.look]) ?_)
  ·simp [aQ, msC, am, az]
   refine ak ratio_Zero (by simp) ?_
   simp [bb, z]
   refine ak (nw (Nat.le_refl _) hm.f2) (by simp [eo, Raw.v]) ?_
   simp [bb, Raw.v, ag, List.filter_cons]
   rw [ap (by omega) (by omega)]
   refine ⟨3, by omega, by dsimp only; omega, ?_⟩
   refine aO ?_ ?_ (by simp) ?_ (aK (aK (aK (aK dU (av (by simp [V.within]))) (av (by simp [V.within]))) (aW _)) (av (by simp [V.within])))
   ·repeat (first | exact af | refine aj (by simp) ?_)
   ·intro o x ho
    simpa [aQ, az, msC, am] using ho
   ·repeat (first | exact ac | refine ah (by simp [V.within, E.look]) ?_)
 have hg3 : g = 3 := by omega
 subst hg3
 simp [aQ]
 have key : ∀ (x : Ob), True := fun _ => trivial
 refine aH (fun g : Nat × Nat × List Part × Sto => (comeL M g.2.1 g.2.2.1.length g.1, g.2.2.2)) (fun g => CI M (am (ao m.rf.q) (ao m.lo.q) (ao m.f0.q) (ao m.f1.q) (ao m.f2.q)) g.1 g.2.2.1 g.2.1 g.2.2.2) (fun g => M.length - g.1)
  (0, 0, [], [(3, ⟨.own, 16, [.nils :: am (ao m.rf.q) (ao m.lo.q) (ao m.f0.q) (ao m.f1.q) (ao m.f2.q)]⟩), (2, obL M), (1, ⟨.own, 16, [az]⟩), (0, ⟨.own, 16, [msC m]⟩)]) ?_ ?_ ?_
 ·refine ⟨Nat.zero_le _, by simp [E.look], by simp [E.look, aF], fun h => (h rfl).elim, fun h => (h rfl).elim, IsN.nil, by simp [E.look], ?_, by simp⟩
  exact aK (aK (aK (aK dU (av (bS m))) (av bC)) (aW _)) (av (by
   intro y hy f
   simp only [List.mem_cons] at hy
   rcases hy with rfl | hy
   ·simp [V.within]
   ·exact bL _ _ _ _ _ y hy f))
 ·unfold comeL
  refine aO ?_ ?_ (by simp) ?_ (aK (aK (aK (aK dU (av (bS m))) (av bC)) (aW _)) (av (by
   intro y hy f
   simp only [List.mem_cons] at hy
   rcases hy with rfl | hy
   ·simp [V.within]
   ·exact bL _ _ _ _ _ y hy f)))
  ·repeat (first | exact af | refine aj (by simp [lM]) ?_)
  ·intro o x ho
   simpa [aQ, az, msC, am] using ho
  ·repeat (first | exact ac | refine ah (by simp [V.within, E.look]) ?_)
 clear key
 generalize hR : am (ao m.rf.q) (ao m.lo.q) (ao m.f0.q) (ao m.f1.q) (ao m.f2.q) = R
 have hRl : R.length = 15 := by rw [← hR]; rfl
 rintro ⟨i, q, G, τ⟩ I
 dsimp only at I
 have l2 := bt I.lst
 have l3 := bt I.out
 have l1 := bt I.res
 have hlst := I.lst
 have hout := I.out
 unfold comeL
 by_cases c : i < M.length
 ·have okI := okM _ (List.getElem_mem c)
  simp [c]
  refine ai ratio_Zero (by simp) ?_
  simp [bb, z]
  have fo2 : ¬ (2 : Nat) = fresh τ := by omega
  have fo3 : ¬ (3 : Nat) = fresh τ := by omega
  have fo1 : ¬ (1 : Nat) = fresh τ := by omega
  have hl1 : ∀ x : Ob, (E.look (ag τ (fresh τ) x) 1).isSome = true := fun x => by rw [ab, if_neg fo1, I.res]; rfl
  have hl2 : ∀ x : Ob, (E.look (ag τ (fresh τ) x) 2).isSome = true := fun x => by rw [ab, if_neg fo2, hlst]; rfl
  have hl3 : ∀ x : Ob, (E.look (ag τ (fresh τ) x) 3).isSome = true := fun x => by rw [ab, if_neg fo3, hout]; rfl
  have hlf : ∀ x : Ob, (E.look (ag τ (fresh τ) x) (fresh τ)).isSome = true := fun x => by rw [ab, if_pos rfl]; rfl
  have hfw : ∀ k, Fits (aU (grp M i k) M[i].v) (2 ^ 31) := fun k => by
   refine (gj hK (fun p hp => Raw.fits (okM p (grp_mem hp)).2 hK) _).mono ?_
   have h1 : (grp M i k).length * (K + 1) ≤ m.parts.length * (K + 1) := Nat.mul_le_mul_right _ (by rw [← lM]; exact grp_len M i k)
   omega
  have pw : ∀ r : Raw, dV [[V.bool r.neg, nat r.num, nat r.den]] := fun r => av (by simp [V.within])
  refine aH (fun k : Nat => ((((((Sl.empty.set 8 (.ptr (fresh τ) 0 0)).set 7 (.int .i64 k)).set 6 (.int .i64 i)).set 4 (.ptr 3 0 0)).set 3 (.ref 2 0 M.length)).set 2 (.ptr 1 0 0),
   ag τ (fresh τ) ⟨.own, 3, [[.bool (ao (aU (grp M i k) M[i].v)).neg, nat (ao (aU (grp M i k) M[i].v)).num, nat (ao (aU (grp M i k) M[i].v)).den]]⟩))
   (fun k => i ≤ k ∧ k ≤ M.length ∧ ∀ p ∈ grp M i k, p.v = M[i].v) (fun k => M.length - k) i ⟨Nat.le_refl _, by omega, by rw [pR]; simp⟩ ?_ ?_
  ·rw [cU]
   refine aO ?_ ?_ (by simp) ?_ (aE I.shut (pw _))
   ·repeat (first | exact af | refine aj (by simp) ?_)
   ·rw [pR, gk, eo]
    exact Has.refl _
   ·dsimp only
    repeat (first | exact ac | refine ah (by first | (simp; done) | (simp only [bA, ch]; first | exact hl1 _ | exact hl2 _ | exact hl3 _ | exact hlf _)) ?_)
  rintro k ⟨k1, k2, k3⟩
  have sv : ∀ x y : Ob, ag (ag τ (fresh τ) x) (fresh τ) y = ag τ (fresh τ) y := fun x y => cU _ _ _ _
  have g2 : ∀ x : Ob, aM (ag τ (fresh τ) x) 2 = some (obL M) := fun x => by
   unfold aM; rw [ab, if_neg fo2, hlst]; rfl
  have gw : ∀ x : Ob, x.st ≠ .dead → aM (ag τ (fresh τ) x) (fresh τ) = some x := fun x hx => by
   unfold aM; rw [ab, if_pos rfl]; simp [hx]
  have lk2 : ∀ x : Ob, E.look (ag τ (fresh τ) x) 2 = some (obL M) := fun x => by rw [ab, if_neg fo2, hlst]
  have hI31 : ∀ {p : Part}, p ∈ M → p.w.Ok (2 ^ 31) := fun hp => rok (okM _ hp).2 hK31
  by_cases ce : ∃ h : k < M.length, M[k].v = M[i].v
  ·obtain ⟨c1, c2⟩ := ce
   have okk := okM _ (List.getElem_mem c1)
   have fk := hfw k
   have hst : aU (grp M i (k + 1)) M[i].v = aU (grp M i k) M[i].v + M[k].w.q := by
    rw [pS k1 c1, eL, cD, gk, if_pos c2, Rat.add_zero]
   simp [c1, c, g2, lk2]
   refine ak (value_Same okk.1 okI.1) (by simp [ba]) ?_
   simp [c2, gw, g2, lk2, c1]
   refine ak (ratio_Add (bw fk) (hI31 (List.getElem_mem c1))) (by simp [bq, bW, Raw.c]) ?_
   rw [be, ← hst]
   simp [bb, Raw.v, gw, g2, lk2, sv]
   rw [ap (by omega) (by omega)]
   refine ⟨k + 1, ⟨by omega, by omega, fun p hp => ?_⟩, by dsimp only; omega, ?_⟩
   ·rw [pS k1 c1] at hp
    rcases List.mem_append.1 hp with hp | hp
    ·exact k3 p hp
    ·simp at hp; subst hp; exact c2
   ·refine aO ?_ (Has.refl _) (by simp) ?_ (aE I.shut (pw _))
    ·repeat (first | exact af | refine aj (by simp) ?_)
    ·dsimp only
     repeat (first | exact ac | refine ah (by first | (simp; done) | (simp only [bA, ch]; first | exact hl1 _ | exact hl2 _ | exact hl3 _ | exact hlf _)) ?_)
  ·have hkb : ∀ h : k < M.length, M[k].v ≠ M[i].v := fun h e => ce ⟨h, e⟩
   have hik : i < k := by
    rcases Nat.lt_or_ge i k with h | h
    ·exact h
    ·have e : k = i := by omega
     subst e
     exact (hkb c rfl).elim
   have fk := hfw k
   have isn' := I.isn.group k3 (fun p hp => I.bnd p hp c)
   rw [← qu k1] at isn'
   have bnd' : ∀ p ∈ M.take k, ∀ h : k < M.length, bJ p.v M[k].v < 0 := fun p hp h => by
    have t1 := hS.le (i := i) (j := k) (Nat.zero_le _) k1 h (List.getElem?_eq_getElem c) (List.getElem?_eq_getElem h)
    have t2 : bJ M[i].v M[k].v ≠ 0 := fun e => hkb h ((bP _ _).1 e).symm
    rw [qu k1] at hp
    rcases List.mem_append.1 hp with hp | hp
    ·exact dJ (I.bnd p hp c) (by omega)
    ·rw [k3 p hp]; omega
   have sgn0 : dY (aU (grp M i k) M[i].v) = 0 ↔ aU (grp M i k) M[i].v = 0 := by
    constructor
    ·intro h
     by_cases e : aU (grp M i k) M[i].v = 0
     ·exact e
     ·by_cases e2 : aU (grp M i k) M[i].v < 0
      ·rw [fI e2] at h; omega
      ·have : 0 < aU (grp M i k) M[i].v := by grind
       rw [fJ this] at h; omega
    ·intro h; rw [h]; exact fj
   have hsg := ratio_Sign (rok (bw fk) (show 2 ^ 31 ≤ 2 ^ 33 by omega))
   rw [be] at hsg
   have pre : True := trivial
   by_cases c1 : k < M.length
   ·have okk := okM _ (List.getElem_mem c1)
    simp [c1, c, g2, lk2]
    refine ak (value_Same okk.1 okI.1) (by simp [ba]) ?_
    simp [hkb c1, gw, g2, lk2]
    refine ai hsg (by simp [Raw.v]) ?_
    by_cases hz : aU (grp M i k) M[i].v = 0
    ·simp [sgn0.2 hz]
     rw [if_pos hz] at isn'
     refine ⟨(k, q, G, ag τ (fresh τ) ⟨.own, 3, [[.bool (ao (aU (grp M i k) M[i].v)).neg, nat (ao (aU (grp M i k) M[i].v)).num, nat (ao (aU (grp M i k) M[i].v)).den]]⟩), ⟨k2, lk2 _, by dsimp only; rw [ab, if_neg fo3, hout], fun h => ?_, I.q2, isn', by dsimp only; rw [ab, if_neg fo1, I.res], aE I.shut (pw _), bnd'⟩, by dsimp only; omega, ?_⟩
     ·have := bt (I.prt h)
      dsimp only
      rw [ab, if_neg (by omega), I.prt h]
     ·refine aO ?_ (Has.refl _) (by simp) ?_ (aE I.shut (pw _))
      ·repeat (first | exact af | refine aj (by simp) ?_)
      ·dsimp only
       repeat (first | exact ac | refine ah (by first | (simp; done) | (simp only [bA, ch]; first | exact hl1 _ | exact hl2 _ | exact hl3 _ | exact hlf _)) ?_)
    ·have hz' : ¬ dY (aU (grp M i k) M[i].v) = 0 := fun h => hz (sgn0.1 h)
     rw [if_neg hz] at isn'
     have ed : List.drop 6 (M[i].v.cells ++ [V.bool false, .nils, .nils]) = [] := List.drop_eq_nil_of_le (by simp)
     have ep : M[i].v.cells ++ [V.bool (ao (aU (grp M i k) M[i].v)).neg, nat (ao (aU (grp M i k) M[i].v)).num, nat (ao (aU (grp M i k) M[i].v)).den] = aA ⟨M[i].v, ao (aU (grp M i k) M[i].v)⟩ := rfl
     have et3 : List.take 3 (M[i].v.cells ++ [V.bool false, .nils, .nils]) = M[i].v.cells := by rw [List.take_append_of_le_length (by simp)]; exact List.take_of_length_le (by simp)
     have hRin : ∀ y ∈ R, ∀ f : Nat → Bool, y.within f = true := by rw [← hR]; exact bL _ _ _ _ _
     have hlenG : G.length ≤ 1000000 := by
      have := I.isn
      rw [this.norm]
      refine Nat.le_trans (dT _) ?_
      simp; omega
     have hP1 : dV [aA ⟨M[i].v, ao (aU (grp M i k) M[i].v)⟩] := av fun y hy f => bn _ y hy f
     by_cases hG0 : G = []
     ·subst hG0
      simp (disch := omega) [hz', hout, fo3, fo2, gw, g2, lk2, aM, hlst, bc, aF, c, ed, ep, Nat.max_eq_left, Nat.max_eq_right, if_neg, if_pos]
      rw [et3, ep]
      obtain ⟨a1, a2, a3, a4⟩ := oe (w := ⟨.own, 3, [[.bool (ao (aU (grp M i k) M[i].v)).neg, nat (ao (aU (grp M i k) M[i].v)).num, nat (ao (aU (grp M i k) M[i].v)).den]]⟩) (P := aA ⟨M[i].v, ao (aU (grp M i k) M[i].v)⟩) (R := R) l3
      have hsO := og (w := ⟨.own, 3, [[.bool (ao (aU (grp M i k) M[i].v)).neg, nat (ao (aU (grp M i k) M[i].v)).num, nat (ao (aU (grp M i k) M[i].v)).den]]⟩) (R := R) I.shut (pw (ao (aU (grp M i k) M[i].v))) hP1 hRin
      refine ⟨(k, fresh τ + 1 + 1, [⟨M[i].v, ao (aU (grp M i k) M[i].v)⟩], pa τ ⟨.own, 3, [[.bool (ao (aU (grp M i k) M[i].v)).neg, nat (ao (aU (grp M i k) M[i].v)).num, nat (ao (aU (grp M i k) M[i].v)).den]]⟩ (aA ⟨M[i].v, ao (aU (grp M i k) M[i].v)⟩) R), ⟨k2, a2.trans hlst, a3, fun _ => a4, fun _ => by dsimp only; omega, by simpa using isn', a1.trans I.res, hsO, bnd'⟩, by dsimp only; omega, ?_⟩
      refine aO ?_ (Has.refl _) (by simp) ?_ hsO
      ·repeat (first | exact af | refine aj (by simp) ?_)
      ·repeat (first | exact ac | refine ah (by first | (simp; done) | (simp only [bA, ch, a1, a2, a3, hlst, I.res, Option.isSome_some])) ?_)
     ·have hGn : G.length ≠ 0 := fun h => hG0 (List.length_eq_zero_iff.1 h)
      have hprt := I.prt hG0
      have hq := bt hprt
      obtain ⟨hq2, hq3, hq1⟩ := I.q2 hG0
      rw [ax hGn] at hout
      simp (disch := omega) [hz', hout, fo3, fo2, gw, g2, lk2, aM, hlst, bc, c, hprt, ed, ep, Nat.max_eq_left, Nat.max_eq_right, if_neg, if_pos]
      rw [et3, ep]
      obtain ⟨a1, a2, a3, a4⟩ := oh (w := ⟨.own, 3, [[.bool (ao (aU (grp M i k) M[i].v)).neg, nat (ao (aU (grp M i k) M[i].v)).num, nat (ao (aU (grp M i k) M[i].v)).den]]⟩) (P := aA ⟨M[i].v, ao (aU (grp M i k) M[i].v)⟩) (R := R) (q := q) (G := G.map aA) l3 hq hq1 hq2 hq3
      have hsO := oi (w := ⟨.own, 3, [[.bool (ao (aU (grp M i k) M[i].v)).neg, nat (ao (aU (grp M i k) M[i].v)).num, nat (ao (aU (grp M i k) M[i].v)).den]]⟩) (R := R) (q := q) I.shut (pw (ao (aU (grp M i k) M[i].v))) hP1 (aW G) hRin
      have hst2 : ∀ (S : Sto), S = jo τ ⟨.own, 3, [[.bool (ao (aU (grp M i k) M[i].v)).neg, nat (ao (aU (grp M i k) M[i].v)).num, nat (ao (aU (grp M i k) M[i].v)).den]]⟩ (aA ⟨M[i].v, ao (aU (grp M i k) M[i].v)⟩) R q (G.map aA) → Has (jo τ ⟨.own, 3, [[.bool (ao (aU (grp M i k) M[i].v)).neg, nat (ao (aU (grp M i k) M[i].v)).num, nat (ao (aU (grp M i k) M[i].v)).den]]⟩ (aA ⟨M[i].v, ao (aU (grp M i k) M[i].v)⟩) R q (G.map aA)) S := fun S e => by rw [e]; exact Has.refl _
      refine ⟨(k, fresh τ + 1 + 1, G ++ [⟨M[i].v, ao (aU (grp M i k) M[i].v)⟩], jo τ ⟨.own, 3, [[.bool (ao (aU (grp M i k) M[i].v)).neg, nat (ao (aU (grp M i k) M[i].v)).num, nat (ao (aU (grp M i k) M[i].v)).den]]⟩ (aA ⟨M[i].v, ao (aU (grp M i k) M[i].v)⟩) R q (G.map aA)), ⟨k2, a2.trans hlst, ?_, fun _ => ?_, fun _ => by dsimp only; omega, isn', a1.trans I.res, hsO, bnd'⟩, by dsimp only; omega, ?_⟩
      ·dsimp only
       rw [a3, ax (by simp)]
       simp
      ·dsimp only
       rw [a4]
       simp
      ·refine aO ?_ (hst2 _ ?_) (by simp) ?_ hsO
       ·repeat (first | exact af | refine aj (by simp) ?_)
       ·unfold jo
        rw [List.length_map]
       ·repeat (first | exact ac | refine ah (by first | (simp; done) | (simp only [bA, ch, a1, a2, a3, hlst, I.res, Option.isSome_some])) ?_)
   ·simp [c1, gw]
    refine ai hsg (by simp [Raw.v]) ?_
    by_cases hz : aU (grp M i k) M[i].v = 0
    ·simp [sgn0.2 hz]
     rw [if_pos hz] at isn'
     refine ⟨(k, q, G, ag τ (fresh τ) ⟨.own, 3, [[.bool (ao (aU (grp M i k) M[i].v)).neg, nat (ao (aU (grp M i k) M[i].v)).num, nat (ao (aU (grp M i k) M[i].v)).den]]⟩), ⟨k2, lk2 _, by dsimp only; rw [ab, if_neg fo3, hout], fun h => ?_, I.q2, isn', by dsimp only; rw [ab, if_neg fo1, I.res], aE I.shut (pw _), bnd'⟩, by dsimp only; omega, ?_⟩
     ·have := bt (I.prt h)
      dsimp only
      rw [ab, if_neg (by omega), I.prt h]
     ·refine aO ?_ (Has.refl _) (by simp) ?_ (aE I.shut (pw _))
      ·repeat (first | exact af | refine aj (by simp) ?_)
      ·dsimp only
       repeat (first | exact ac | refine ah (by first | (simp; done) | (simp only [bA, ch]; first | exact hl1 _ | exact hl2 _ | exact hl3 _ | exact hlf _)) ?_)
    ·have hz' : ¬ dY (aU (grp M i k) M[i].v) = 0 := fun h => hz (sgn0.1 h)
     rw [if_neg hz] at isn'
     have ed : List.drop 6 (M[i].v.cells ++ [V.bool false, .nils, .nils]) = [] := List.drop_eq_nil_of_le (by simp)
     have ep : M[i].v.cells ++ [V.bool (ao (aU (grp M i k) M[i].v)).neg, nat (ao (aU (grp M i k) M[i].v)).num, nat (ao (aU (grp M i k) M[i].v)).den] = aA ⟨M[i].v, ao (aU (grp M i k) M[i].v)⟩ := rfl
     have et3 : List.take 3 (M[i].v.cells ++ [V.bool false, .nils, .nils]) = M[i].v.cells := by rw [List.take_append_of_le_length (by simp)]; exact List.take_of_length_le (by simp)
     have hRin : ∀ y ∈ R, ∀ f : Nat → Bool, y.within f = true := by rw [← hR]; exact bL _ _ _ _ _
     have hlenG : G.length ≤ 1000000 := by
      have := I.isn
      rw [this.norm]
      refine Nat.le_trans (dT _) ?_
      simp; omega
     have hP1 : dV [aA ⟨M[i].v, ao (aU (grp M i k) M[i].v)⟩] := av fun y hy f => bn _ y hy f
     by_cases hG0 : G = []
     ·subst hG0
      simp (disch := omega) [hz', hout, fo3, fo2, gw, g2, lk2, aM, hlst, bc, aF, c, ed, ep, Nat.max_eq_left, Nat.max_eq_right, if_neg, if_pos]
      rw [et3, ep]
      obtain ⟨a1, a2, a3, a4⟩ := oe (w := ⟨.own, 3, [[.bool (ao (aU (grp M i k) M[i].v)).neg, nat (ao (aU (grp M i k) M[i].v)).num, nat (ao (aU (grp M i k) M[i].v)).den]]⟩) (P := aA ⟨M[i].v, ao (aU (grp M i k) M[i].v)⟩) (R := R) l3
      have hsO := og (w := ⟨.own, 3, [[.bool (ao (aU (grp M i k) M[i].v)).neg, nat (ao (aU (grp M i k) M[i].v)).num, nat (ao (aU (grp M i k) M[i].v)).den]]⟩) (R := R) I.shut (pw (ao (aU (grp M i k) M[i].v))) hP1 hRin
      refine ⟨(k, fresh τ + 1 + 1, [⟨M[i].v, ao (aU (grp M i k) M[i].v)⟩], pa τ ⟨.own, 3, [[.bool (ao (aU (grp M i k) M[i].v)).neg, nat (ao (aU (grp M i k) M[i].v)).num, nat (ao (aU (grp M i k) M[i].v)).den]]⟩ (aA ⟨M[i].v, ao (aU (grp M i k) M[i].v)⟩) R), ⟨k2, a2.trans hlst, a3, fun _ => a4, fun _ => by dsimp only; omega, by simpa using isn', a1.trans I.res, hsO, bnd'⟩, by dsimp only; omega, ?_⟩
      refine aO ?_ (Has.refl _) (by simp) ?_ hsO
      ·repeat (first | exact af | refine aj (by simp) ?_)
      ·repeat (first | exact ac | refine ah (by first | (simp; done) | (simp only [bA, ch, a1, a2, a3, hlst, I.res, Option.isSome_some])) ?_)
     ·have hGn : G.length ≠ 0 := fun h => hG0 (List.length_eq_zero_iff.1 h)
      have hprt := I.prt hG0
      have hq := bt hprt
      obtain ⟨hq2, hq3, hq1⟩ := I.q2 hG0
      rw [ax hGn] at hout
      simp (disch := omega) [hz', hout, fo3, fo2, gw, g2, lk2, aM, hlst, bc, c, hprt, ed, ep, Nat.max_eq_left, Nat.max_eq_right, if_neg, if_pos]
      rw [et3, ep]
      obtain ⟨a1, a2, a3, a4⟩ := oh (w := ⟨.own, 3, [[.bool (ao (aU (grp M i k) M[i].v)).neg, nat (ao (aU (grp M i k) M[i].v)).num, nat (ao (aU (grp M i k) M[i].v)).den]]⟩) (P := aA ⟨M[i].v, ao (aU (grp M i k) M[i].v)⟩) (R := R) (q := q) (G := G.map aA) l3 hq hq1 hq2 hq3
      have hsO := oi (w := ⟨.own, 3, [[.bool (ao (aU (grp M i k) M[i].v)).neg, nat (ao (aU (grp M i k) M[i].v)).num, nat (ao (aU (grp M i k) M[i].v)).den]]⟩) (R := R) (q := q) I.shut (pw (ao (aU (grp M i k) M[i].v))) hP1 (aW G) hRin
      have hst2 : ∀ (S : Sto), S = jo τ ⟨.own, 3, [[.bool (ao (aU (grp M i k) M[i].v)).neg, nat (ao (aU (grp M i k) M[i].v)).num, nat (ao (aU (grp M i k) M[i].v)).den]]⟩ (aA ⟨M[i].v, ao (aU (grp M i k) M[i].v)⟩) R q (G.map aA) → Has (jo τ ⟨.own, 3, [[.bool (ao (aU (grp M i k) M[i].v)).neg, nat (ao (aU (grp M i k) M[i].v)).num, nat (ao (aU (grp M i k) M[i].v)).den]]⟩ (aA ⟨M[i].v, ao (aU (grp M i k) M[i].v)⟩) R q (G.map aA)) S := fun S e => by rw [e]; exact Has.refl _
      refine ⟨(k, fresh τ + 1 + 1, G ++ [⟨M[i].v, ao (aU (grp M i k) M[i].v)⟩], jo τ ⟨.own, 3, [[.bool (ao (aU (grp M i k) M[i].v)).neg, nat (ao (aU (grp M i k) M[i].v)).num, nat (ao (aU (grp M i k) M[i].v)).den]]⟩ (aA ⟨M[i].v, ao (aU (grp M i k) M[i].v)⟩) R q (G.map aA)), ⟨k2, a2.trans hlst, ?_, fun _ => ?_, fun _ => by dsimp only; omega, isn', a1.trans I.res, hsO, bnd'⟩, by dsimp only; omega, ?_⟩
      ·dsimp only
       rw [a3, ax (by simp)]
       simp
      ·dsimp only
       rw [a4]
       simp
      ·refine aO ?_ (hst2 _ ?_) (by simp) ?_ hsO
       ·repeat (first | exact af | refine aj (by simp) ?_)
       ·unfold jo
        rw [List.length_map]
       ·repeat (first | exact ac | refine ah (by first | (simp; done) | (simp only [bA, ch, a1, a2, a3, hlst, I.res, Option.isSome_some])) ?_)
 ·have hil : i = M.length := by have := I.le; omega
  subst hil
  have hisn := I.isn
  rw [List.take_length] at hisn
  have hG := hisn.norm
  simp
  have hres := I.res
  have hRt : List.take 15 R = R := List.take_of_length_le (by omega)
  simp [hout, hres, aM, hRl, hRt, az]
  have hGN : G = aL m.parts := by rw [hG]; exact n7 fun v => tu hM v
  have hRD : ∀ (σ : Sto), bo (toD σ 11) R = some R := fun σ => by rw [← hR]; simp [am]
  rw [hRD]
  have hT : toD (ag τ 1 ⟨.own, 16, [bl q G.length :: R]⟩) 11 (bl q G.length) = some (pl G) := by
   rw [cI (k := 10) (st := .own) (es := 6) (l := G.map aA) (fun h => ?_) (by simp) (by simp) (by simp) (fun r hr => by obtain ⟨p, _, rfl⟩ := List.mem_map.1 hr; exact bG _ _ _)]
   have hG0 : G ≠ [] := fun e => h (by rw [e]; rfl)
   rw [ab, if_neg (I.q2 hG0).2.2]
   exact I.prt hG0
  rw [hT]
  simp only [Option.some.injEq]
  show pl G :: R = pl (aI m).parts :: am (aI m).rf (aI m).lo (aI m).f0 (aI m).f1 (aI m).f2
  rw [hGN, ← hR]
  rfl
set_option maxHeartbeats 8000000 in
theorem i9 {m : Ms} {K : Nat} (h0 : m.parts = []) (hK31 : K ≤ 2 ^ 31) (hm : m.Ok K) : CallD Tryz.prog F.weights_come [m.v] (· = (aI m).v) := by
 refine aB F.weights_come_ok ?_
 unfold F.weights_come_c
 have z : (ao 0).v = .agg [.bool false, nat [], nat [1]] := by rw [eo]; rfl
 simp [ag, List.filter_cons, msC, am, h0]
 refine ai kU (by simp) ?_
 simp
 refine ai sY (by simp) ?_
 simp
 refine ak ratio_Zero (by simp) ?_
 simp [bb, z]
 refine ak (nw hK31 hm.rf) (by simp [eo, Raw.v]) ?_
 simp [bb]
 refine ak ratio_Zero (by simp) ?_
 simp [bb, z]
 refine ak (nw hK31 hm.lo) (by simp [eo, Raw.v]) ?_
 simp [bb, Raw.v, ag, List.filter_cons]
 refine aH (fun g : Nat => (((((Sl.empty.set 23 (.int .i64 g)).set 4 (.ptr 2 0 0)).set 3 (.dat [])).set 2 (.ptr 1 0 0)).set 1 (.ptr 0 0 0),
  [(2, ⟨.own, 16, [.nils :: aQ (ao m.rf.q) (ao m.lo.q) (ao m.f0.q) (ao m.f1.q) (ao m.f2.q) g]⟩), (1, ⟨.own, 16, [az]⟩), (0, ⟨.own, 16, [msC m]⟩)]))
  (fun g => g ≤ 3) (fun g => 3 - g) 0 (by omega) ?_ ?_
 ·refine aO ?_ ?_ (by simp) ?_ ?_
  ·repeat (first | exact af | refine aj (by simp) ?_)
  ·intro o x ho
   simpa [aQ, az, msC, am, h0] using ho
  ·repeat (first | exact ac | refine ah (by simp [V.within, E.look]) ?_)
  ·refine aK (aK (aK dU (av (bS m))) (av bC)) (av (cH _ _ _ _ _ _))
 intro g hg
 by_cases c : g < 3
 ·have hg3 : g = 0 ∨ g = 1 ∨ g = 2 := by omega
  rcases hg3 with rfl | rfl | rfl
  ·simp [aQ, msC, am, az]
   refine ak ratio_Zero (by simp) ?_
   simp [bb, z]
   refine ak (nw hK31 hm.f0) (by simp [eo, Raw.v]) ?_
   simp [bb, Raw.v, ag, List.filter_cons]
   rw [ap (by omega) (by omega)]
   refine ⟨1, by omega, by dsimp only; omega, ?_⟩
   refine aO ?_ ?_ (by simp) ?_ (aK (aK (aK dU (av (by simp [V.within]))) (av (by simp [V.within]))) (av (by simp [V.within])))
   ·repeat (first | exact af | refine aj (by simp) ?_)
   ·intro o x ho
    simpa [aQ, az, msC, am, h0] using ho
   ·repeat (first | exact ac | refine ah (by simp [V.within, E.look]) ?_)
  ·simp [aQ, msC, am, az]
   refine ak ratio_Zero (by simp) ?_
   simp [bb, z]
   refine ak (nw hK31 hm.f1) (by simp [eo, Raw.v]) ?_
   simp [bb, Raw.v, ag, List.filter_cons]
   rw [ap (by omega) (by omega)]
   refine ⟨2, by omega, by dsimp only; omega, ?_⟩
   refine aO ?_ ?_ (by simp) ?_ (aK (aK (aK dU (av (by simp [V.within]))) (av (by simp [V.within]))) (av (by simp [V.within])))
   ·repeat (first | exact af | refine aj (by simp) ?_)
   ·intro o x ho
    simpa [aQ, az, msC, am, h0] using ho
   ·repeat (first | exact ac | refine ah (by simp [V.within, E.look]) ?_)
  ·simp [aQ, msC, am, az]
   refine ak ratio_Zero (by simp) ?_
   simp [bb, z]
   refine ak (nw hK31 hm.f2) (by simp [eo, Raw.v]) ?_
   simp [bb, Raw.v, ag, List.filter_cons]
   rw [ap (by omega) (by omega)]
   refine ⟨3, by omega, by dsimp only; omega, ?_⟩
   refine aO ?_ ?_ (by simp) ?_ (aK (aK (aK dU (av (by simp [V.within]))) (av (by simp [V.within]))) (av (by simp [V.within])))
   ·repeat (first | exact af | refine aj (by simp) ?_)
   ·intro o x ho
    simpa [aQ, az, msC, am, h0] using ho
   ·repeat (first | exact ac | refine ah (by simp [V.within, E.look]) ?_)
 have hg3 : g = 3 := by omega
 subst hg3
 simp [aQ]
 refine aH (fun g : Nat => ((((Sl.empty.set 6 (.int .i64 0)).set 4 (.ptr 2 0 0)).set 3 (.dat [])).set 2 (.ptr 1 0 0),
  [(2, ⟨.own, 16, [.nils :: am (ao m.rf.q) (ao m.lo.q) (ao m.f0.q) (ao m.f1.q) (ao m.f2.q)]⟩), (1, ⟨.own, 16, [az]⟩), (0, ⟨.own, 16, [msC m]⟩)])) (fun _ => True) (fun g => g) 0 trivial ?_ ?_
 ·refine aO ?_ ?_ (by simp) ?_ ?_
  ·repeat (first | exact af | refine aj (by simp) ?_)
  ·intro o x ho
   simpa [aQ, az, msC, am] using ho
  ·repeat (first | exact ac | refine ah (by simp [V.within, E.look]) ?_)
  ·refine aK (aK (aK dU (av (bS m))) (av bC)) (av (by
    intro y hy f
    simp only [List.mem_cons] at hy
    rcases hy with rfl | hy
    ·simp [V.within]
    ·exact bL _ _ _ _ _ y hy f))
 rintro g -
 simp [am, az, ag, List.filter_cons]
 have hn : aL m.parts = [] := by rw [h0]; rfl
 simp [msC, aI, am, hn]
theorem fP {m : Ms} {K : Nat} (hK : 1 ≤ K) (hp : ∀ p ∈ m.parts, p.v.Ok ∧ p.w.Ok K) (hm : m.Ok (2 ^ 31)) (hb : 1 + m.parts.length * (K + 1) ≤ 2 ^ 31) (hn : m.parts.length ≤ 1000000) : CallD Tryz.prog F.weights_come [m.v] (· = (aI m).v) := by
 by_cases h0 : m.parts = []
 ·exact i9 h0 (Nat.le_refl _) hm
 ·exact weights_come h0 hK hp hm hb hn
theorem dj {m : Ms} {K : Nat} (hK : 1 ≤ K) (hK31 : K ≤ 2 ^ 31) (hm : m.Ok K) (hb : 1 + m.parts.length * (K + 1) ≤ 2 ^ 31) (hn : m.parts.length ≤ 1000000) : CallD Tryz.prog F.weights_come [m.v] (· = (aI m).v) :=
 fP hK hm.parts ⟨fun p hp => ⟨(hm.parts p hp).1, rok (hm.parts p hp).2 hK31⟩, rok hm.rf hK31, rok hm.lo hK31, rok hm.f0 hK31, rok hm.f1 hK31, rok hm.f2 hK31⟩ hb hn
end Go.Proofs.YtmjgehbpcchjpaaGreatDoor
