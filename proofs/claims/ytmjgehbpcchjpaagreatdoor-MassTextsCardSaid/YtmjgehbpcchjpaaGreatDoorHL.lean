import Derived.Test.YtmjgehbpcchjpaaGreatDoorHK
import Derived.Test.YtmjgehbpcchjpaaGreatDoorGC
import Derived.Test.YtmjgehbpcchjpaaGreatDoorProg
import Derived.KernelRfl
import Derived.Test.YtmjgehbpcchjpaaGreatDoorGL
namespace Go.Proofs.YtmjgehbpcchjpaaGreatDoor.F
open Go Go.Proofs Go.Proofs.YtmjgehbpcchjpaaGreatDoor.E Go.Proofs.YtmjgehbpcchjpaaGreatDoor.Q
abbrev weights_come : Nat := 128
def weights_come_c : MFn := ⟨85,(.seq (r [o 1 (.box (.t 0)),o 2 (.alloc zM)] [1,2]) (.seq (r [o 9 (.fA 0 (.t 1)),o 10 (.ld none (.t 9)),o 11 (.call 164 [(.t 10)]),o 3 (.mv (.t 11))] [1,2,3]) (.seq (r [o 12 (.mv (.t 3)),o 13 (.call 165 [(.t 12),(.c (.clo 166 []))])] [1,2,3]) (.seq (r [o 14 (.fA 1 (.t 1)),o 15 (.ld (some 3) (.t 14)),o 16 (.callF 45 []),o 17 (.callF 40 [(.t 15),(.t 16)]),o 18 (.fA 4 (.t 1)),o 19 (.ld (some 3) (.t 18)),o 20 (.callF 45 []),o 21 (.callF 40 [(.t 19),(.t 20)]),o 22 (.build zM [(1,3,(.t 17)),(4,3,(.t 21))]),o 4 (.alloc zM),z (.st 16 (.t 4) (.t 22))] [1,2,3,4]) (.seq (.seq (r [o 23 (.mv (i 0))] [1,2,3,4,23]) (.block 0 (.loop (.seq (r [o 24 (.bin .lss (.t 23) (i 3))] [1,2,3,4,23,24]) (.seq (.cond (.t 24) .skip (.exit 0)) (.seq (.block 1 (.seq (r [o 25 (.mv (.t 23)),o 5 (.mv (.t 25))] [1,2,3,4,5,23]) (r [o 26 (.mv (.t 5)),o 27 (.mv (.t 5)),o 28 (.fA 7 (.t 1)),o 29 (.ixArr 3 3 (.t 28) (.t 27)),o 30 (.ld (some 3) (.t 29)),o 31 (.callF 45 []),o 32 (.callF 40 [(.t 30),(.t 31)]),o 33 (.fA 7 (.t 4)),o 34 (.ixArr 3 3 (.t 33) (.t 26)),z (.st 3 (.t 34) (.t 32))] [1,2,3,4,23]))) (r [o 35 (.bin .add (.t 23) (i 1)),o 23 (.mv (.t 35))] [1,2,3,4,23]))))))) (.seq (.seq (r [o 6 (.mv (i 0))] [2,3,4,6]) (.block 2 (.loop (.seq (.seq (r [o 36 (.mv (.t 6)),o 37 (.mv (.t 3)),o 38 (.lenS (.t 37)),o 39 (.bin .lss (.t 36) (.t 38))] [2,3,4,6,39]) (.cond (.t 39) .skip (.exit 2))) (.block 3 (.seq (r [o 40 (.mv (.t 6)),o 7 (.mv (.t 40))] [2,3,4,6,7]) (.seq (r [o 41 (.call 45 []),o 8 (.alloc zR),z (.st 3 (.t 8) (.t 41))] [2,3,4,6,7,8]) (.seq (.block 4 (.loop (.seq (.seq (r [o 42 (.mv (.t 7)),o 43 (.mv (.t 3)),o 44 (.lenS (.t 43)),o 45 (.bin .lss (.t 42) (.t 44)),o 46 (.mv (.t 45)),y 47 46 (.mv (.t 3)),y 48 46 (.mv (.t 7)),y 49 46 (.ixA 6 (.t 47) (.t 48)),y 50 46 (.fA 0 (.t 49)),y 51 46 (.ld (some 3) (.t 50)),y 52 46 (.mv (.t 3)),y 53 46 (.mv (.t 6)),y 54 46 (.ixA 6 (.t 52) (.t 53)),y 55 46 (.fA 0 (.t 54)),y 56 46 (.ld (some 3) (.t 55)),y 57 46 (.callF 140 [(.t 51),(.t 56)]),o 58 (.pick (.t 46) (.t 57) (.c (.bool false)))] [2,3,4,6,7,8,58]) (.cond (.t 58) .skip (.exit 4))) (.seq (.block 5 (r [o 61 (.ld (some 3) (.t 8)),o 62 (.mv (.t 3)),o 63 (.mv (.t 7)),o 64 (.ixA 6 (.t 62) (.t 63)),o 65 (.fA 3 (.t 64)),o 66 (.ld (some 3) (.t 65)),o 67 (.callF 40 [(.t 61),(.t 66)]),z (.st 3 (.t 8) (.t 67))] [2,3,4,6,7,8])) (r [o 59 (.mv (.t 7)),o 60 (.bin .add (.t 59) (i 1)),o 7 (.mv (.t 60))] [2,3,4,6,7,8]))))) (.seq (.seq (r [o 68 (.ld (some 3) (.t 8)),o 69 (.call 36 [(.t 68)]),o 70 (.bin .neq (.t 69) (i 0))] [2,3,4,6,7,8,70]) (.cond (.t 70) (r [o 71 (.fA 0 (.t 4)),o 72 (.ld none (.t 71)),o 73 (.mv (.t 3)),o 74 (.mv (.t 6)),o 75 (.ixA 6 (.t 73) (.t 74)),o 76 (.fA 0 (.t 75)),o 77 (.ld (some 3) (.t 76)),o 78 (.ld (some 3) (.t 8)),o 79 (.build zP [(0,3,(.t 77)),(3,3,(.t 78))]),o 80 (.buildSl 6 1 zP [(0,(.t 79))]),o 81 (.app 6 96 (.t 72) (.t 80)),o 82 (.fA 0 (.t 4)),z (.st 1 (.t 82) (.t 81))] [2,3,4,7]) .skip)) (r [o 83 (.mv (.t 7)),o 6 (.mv (.t 83))] [2,3,4,6])))))))))) (.seq (r [o 84 (.ld (some 16) (.t 4)),z (.st 16 (.t 2) (.t 84))] [2]) .ret))))))),[.cell 2 (some 16)]⟩
theorem weights_come_ok : cFn Tryz.prog (kps [[1,2],[1,2,3],[1,2,3],[1,2,3,4],[1,2,3,4,23],[1,2,3,4,23,24],[1,2,3,4,5,23],[1,2,3,4,23],[1,2,3,4,23],[2,3,4,6],[2,3,4,6,39],[2,3,4,6,7],[2,3,4,6,7,8],[2,3,4,6,7,8,58],[2,3,4,6,7,8],[2,3,4,6,7,8],[2,3,4,6,7,8,70],[2,3,4,7],[2,3,4,6],[2]]) [] 128 = some weights_come_c := by kernel_rfl
end Go.Proofs.YtmjgehbpcchjpaaGreatDoor.F

namespace Go.Proofs.YtmjgehbpcchjpaaGreatDoor
open Go Go.Proofs Go.Proofs.YtmjgehbpcchjpaaGreatDoor.E
set_option linter.unusedSimpArgs false
set_option linter.unusedVariables false
structure Ms where
 parts : List Part
 rf : Raw
 lo : Raw
 f0 : Raw
 f1 : Raw
 f2 : Raw
def tailC (a b c d e : Raw) : List V := [.bool a.neg, nat a.num, nat a.den, .bool b.neg, nat b.num, nat b.den, .bool c.neg, nat c.num, nat c.den, .bool d.neg, nat d.num, nat d.den, .bool e.neg, nat e.num, nat e.den]
def msC (m : Ms) : List V := pl m.parts :: tailC m.rf m.lo m.f0 m.f1 m.f2
abbrev Ms.v (m : Ms) : V := .agg (msC m)
def zero16 : List V := [.nils, .bool false, .nils, .nils, .bool false, .nils, .nils, .bool false, .nils, .nils, .bool false, .nils, .nils, .bool false, .nils, .nils]
def tailG (a b c d e : Raw) (g : Nat) : List V :=
 [.bool a.neg, nat a.num, nat a.den, .bool b.neg, nat b.num, nat b.den] ++
 (if g ≤ 0 then [.bool false, .nils, .nils] else [.bool c.neg, nat c.num, nat c.den]) ++
 (if g ≤ 1 then [.bool false, .nils, .nils] else [.bool d.neg, nat d.num, nat d.den]) ++
 (if g ≤ 2 then [.bool false, .nils, .nils] else [.bool e.neg, nat e.num, nat e.den])
structure Ms.Ok (m : Ms) (k : Nat) : Prop where
 parts : ∀ p ∈ m.parts, p.v.Ok ∧ p.w.Ok k
 rf : m.rf.Ok k
 lo : m.lo.Ok k
 f0 : m.f0.Ok k
 f1 : m.f1.Ok k
 f2 : m.f2.Ok k
def normM (m : Ms) : Ms := ⟨normP m.parts, rawOf m.rf.q, rawOf m.lo.q, rawOf m.f0.q, rawOf m.f1.q, rawOf m.f2.q⟩
structure CI (M : List Part) (R : List V) (i : Nat) (G : List Part) (q : Nat) (τ : Sto) : Prop where
 le : i ≤ M.length
 lst : E.look τ 2 = some (obL M)
 out : E.look τ 3 = some ⟨.own, 16, [grown q G.length :: R]⟩
 prt : G ≠ [] → E.look τ q = some (obL G)
 q2 : G ≠ [] → q ≠ 2 ∧ q ≠ 3 ∧ q ≠ 1
 isn : IsN (M.take i) G
 res : E.look τ 1 = some ⟨.own, 16, [zero16]⟩
 shut : Shut τ
 bnd : ∀ p ∈ M.take i, ∀ h : i < M.length, cmpT p.v M[i].v < 0
def comeL (M : List Part) (q n i : Nat) : Sl := (((Sl.empty.set 6 (.int .i64 i)).set 4 (.ptr 3 0 0)).set 3 (.ref 2 0 M.length)).set 2 (.ptr 1 0 0)
theorem zero_c : (rawOf 0) = ⟨false, [], [1]⟩ := by
 rw [rawOf_zero]
 rw [digs_pos (by omega)]
 simp
theorem shut_cons {σ : Sto} {o : Nat} {x : Ob} (h : Shut σ) (hx : Plain x.cells) : Shut ((o, x) :: σ) := by
 intro p y hp hd r hr z hz
 simp only [E.look] at hp
 split at hp
 ·injection hp with hp; subst hp
  exact hx r hr z hz _
 ·refine within_mono (h p y hp hd r hr z hz) fun q hq => ?_
  simp only [E.look]
  split
  ·rfl
  ·exact hq
theorem plain_row {l : List V} (h : ∀ y ∈ l, ∀ f : Nat → Bool, y.within f = true) : Plain [l] := by
 intro r hr y hy f
 simp at hr; subst hr
 exact h y hy f
theorem tail_in (a b c d e : Raw) : ∀ y ∈ tailC a b c d e, ∀ f : Nat → Bool, y.within f = true := by simp [tailC, V.within]
theorem tailG_in (a b c d e : Raw) (g : Nat) : ∀ y ∈ V.nils :: tailG a b c d e g, ∀ f : Nat → Bool, y.within f = true := by
 unfold tailG
 by_cases h0 : g ≤ 0 <;> by_cases h1 : g ≤ 1 <;> by_cases h2 : g ≤ 2 <;> simp [h0, h1, h2, V.within]
theorem msC_in (m : Ms) : ∀ y ∈ msC m, ∀ f : Nat → Bool, y.within f = true := by
 intro y hy f
 simp only [msC, List.mem_cons] at hy
 rcases hy with rfl | hy
 ·simp [V.within]
 ·exact tail_in _ _ _ _ _ y hy f
theorem zero16_in : ∀ y ∈ zero16, ∀ f : Nat → Bool, y.within f = true := by simp [zero16, V.within]
theorem shut_sg {σ : Sto} {o : Nat} {x : Ob} (h : Shut σ) (hx : ∀ r ∈ x.cells, ∀ y ∈ r, y.within (fun q => (E.look (setOb σ o x) q).isSome) = true) : Shut (setOb σ o x) := by
 intro p y hp hd r hr z hz
 rw [look_setOb] at hp
 split at hp
 ·injection hp with hp; subst hp; exact hx r hr z hz
 ·exact within_set (h p y hp hd r hr z hz)
theorem shut0 : Shut ([] : Sto) := fun p y hp => by simp [E.look] at hp
theorem add0 {K : Nat} (hK31 : K ≤ 2 ^ 31) {x : Raw} (hx : x.Ok K) : CallD Tryz.prog F.ratio_Add [x.v, (rawOf 0).v] (· = ratV x.q) := by
 have := ratio_Add (rok hx hK31) (rawOf_ok (fits_zero.mono (show 1 ≤ 2 ^ 31 by omega)))
 rwa [rawOf_q, Rat.add_zero] at this
theorem fresh_so (σ : Sto) (o : Nat) (x : Ob) : fresh (setOb σ o x) = max (o + 1) (fresh σ) := by
 have := fresh_filter σ o
 simp only [setOb, fresh]
 exact this
def sto1 (τ : Sto) (w : Ob) (P R : List V) : Sto := setOb (setOb (setOb (setOb τ (fresh τ) w) (fresh τ + 1) ⟨.own, 6, [P]⟩) (fresh τ + 1 + 1) ⟨.own, 6, [P]⟩) 3 ⟨.own, 16, [V.ref (fresh τ + 1 + 1) 0 1 :: R]⟩
def sto2 (τ : Sto) (w : Ob) (P R : List V) (q : Nat) (G : List (List V)) : Sto := setOb (setOb (setOb (setOb (setOb τ (fresh τ) w) (fresh τ + 1) ⟨.own, 6, [P]⟩) q ⟨.dead, 6, []⟩) (fresh τ + 1 + 1) ⟨.own, 6, G ++ [P]⟩) 3 ⟨.own, 16, [V.ref (fresh τ + 1 + 1) 0 (G.length + 1) :: R]⟩
theorem sto1_look {τ : Sto} {w : Ob} {P R : List V} (h : 3 < fresh τ) : E.look (sto1 τ w P R) 1 = E.look τ 1 ∧ E.look (sto1 τ w P R) 2 = E.look τ 2 ∧ E.look (sto1 τ w P R) 3 = some ⟨.own, 16, [V.ref (fresh τ + 1 + 1) 0 1 :: R]⟩ ∧ E.look (sto1 τ w P R) (fresh τ + 1 + 1) = some ⟨.own, 6, [P]⟩ := by
 unfold sto1
 refine ⟨?_, ?_, ?_, ?_⟩
 ·rw [look_setOb, if_neg (by omega), look_setOb, if_neg (by omega), look_setOb, if_neg (by omega), look_setOb, if_neg (by omega)]
 ·rw [look_setOb, if_neg (by omega), look_setOb, if_neg (by omega), look_setOb, if_neg (by omega), look_setOb, if_neg (by omega)]
 ·rw [look_setOb, if_pos rfl]
 ·rw [look_setOb, if_neg (by omega), look_setOb, if_pos rfl]
theorem sto2_look {τ : Sto} {w : Ob} {P R : List V} {q : Nat} {G : List (List V)} (h : 3 < fresh τ) (hq : q < fresh τ) (q1 : q ≠ 1) (q2 : q ≠ 2) (q3 : q ≠ 3) : E.look (sto2 τ w P R q G) 1 = E.look τ 1 ∧ E.look (sto2 τ w P R q G) 2 = E.look τ 2 ∧ E.look (sto2 τ w P R q G) 3 = some ⟨.own, 16, [V.ref (fresh τ + 1 + 1) 0 (G.length + 1) :: R]⟩ ∧ E.look (sto2 τ w P R q G) (fresh τ + 1 + 1) = some ⟨.own, 6, G ++ [P]⟩ := by
 unfold sto2
 refine ⟨?_, ?_, ?_, ?_⟩
 ·rw [look_setOb, if_neg (by omega), look_setOb, if_neg (by omega), look_setOb, if_neg (by omega), look_setOb, if_neg (by omega), look_setOb, if_neg (by omega)]
 ·rw [look_setOb, if_neg (by omega), look_setOb, if_neg (by omega), look_setOb, if_neg (by omega), look_setOb, if_neg (by omega), look_setOb, if_neg (by omega)]
 ·rw [look_setOb, if_pos rfl]
 ·rw [look_setOb, if_neg (by omega), look_setOb, if_pos rfl]
theorem sto1_shut {τ : Sto} {w : Ob} {P R : List V} (h : Shut τ) (hw : Plain w.cells) (hP : Plain [P]) (hR : ∀ y ∈ R, ∀ f : Nat → Bool, y.within f = true) : Shut (sto1 τ w P R) := by
 unfold sto1
 refine shut_sg (shut_set (shut_set (shut_set h hw) hP) hP) fun r hr y hy => ?_
 simp only [List.mem_singleton] at hr; subst hr
 rcases List.mem_cons.1 hy with rfl | hy
 ·simp only [within_ref, look_setOb]
  split <;> simp
 ·exact hR y hy _
theorem sto2_shut {τ : Sto} {w : Ob} {P R : List V} {q : Nat} {G : List (List V)} (h : Shut τ) (hw : Plain w.cells) (hP : Plain [P]) (hG : Plain G) (hR : ∀ y ∈ R, ∀ f : Nat → Bool, y.within f = true) : Shut (sto2 τ w P R q G) := by
 unfold sto2
 refine shut_sg (shut_set (shut_sg (shut_set (shut_set h hw) hP) (fun r hr => by simp at hr)) (fun r hr y hy f => ?_)) fun r hr y hy => ?_
 ·rcases List.mem_append.1 hr with hr | hr
  ·exact hG r hr y hy f
  ·exact hP r hr y hy f
 ·simp only [List.mem_singleton] at hr; subst hr
  rcases List.mem_cons.1 hy with rfl | hy
  ·simp only [within_ref, look_setOb]
   split <;> simp
  ·exact hR y hy _
def grp (M : List Part) (i k : Nat) : List Part := (M.take k).drop i
theorem grp_self (M : List Part) (i : Nat) : grp M i i = [] := List.drop_eq_nil_of_le (by simp; omega)
theorem grp_snoc {M : List Part} {i k : Nat} (h : i ≤ k) (hk : k < M.length) : grp M i (k + 1) = grp M i k ++ [M[k]] := by
 unfold grp
 rw [List.take_succ_eq_append_getElem hk, List.drop_append_of_le_length (by simp; omega)]
theorem take_grp {M : List Part} {i k : Nat} (h : i ≤ k) : M.take k = M.take i ++ grp M i k := by
 unfold grp
 have : M.take i = (M.take k).take i := by rw [List.take_take, Nat.min_eq_left h]
 rw [this, List.take_append_drop]
theorem grp_mem {M : List Part} {i k : Nat} {p : Part} (h : p ∈ grp M i k) : p ∈ M := List.mem_of_mem_take (List.mem_of_mem_drop h)
theorem grp_len (M : List Part) (i k : Nat) : (grp M i k).length ≤ M.length := by unfold grp; simp; omega
set_option maxHeartbeats 16000000 in
theorem weights_come {m : Ms} {K : Nat} (h0 : m.parts ≠ []) (hK : 1 ≤ K) (hp : ∀ p ∈ m.parts, p.v.Ok ∧ p.w.Ok K) (hm : m.Ok (2 ^ 31)) (hb : 1 + m.parts.length * (K + 1) ≤ 2 ^ 31) (hn : m.parts.length ≤ 1000000) : CallD Tryz.prog F.weights_come [m.v] (· = (normM m).v) := by
 have hK31 : K ≤ 2 ^ 31 := by
  cases hp : m.parts with
  | nil => exact (h0 hp).elim
  | cons a l => rw [hp] at hb; simp at hb; have := Nat.le_mul_of_pos_left (K + 1) (show 0 < l.length + 1 by omega); omega
 refine callD_by F.weights_come_ok ?_
 unfold F.weights_come_c
 simp [setOb, List.filter_cons, msC, tailC]
 refine callK_X (clone_Part h0 hn) ?_
 rintro r s ⟨rfl, rfl⟩
 simp
 refine callK_X (sort_Part hn (fun p h => (hp p h).1) (by simp [E.look, setOb]) ?_) ?_
 ·exact shut_set (shut_cons (shut_cons shut0 (plain_row (msC_in m))) (plain_row zero16_in)) (plain_L _)
 rintro r s ⟨rfl, M, rfl, hM, hS⟩
 have lM : M.length = m.parts.length := hM.length_eq
 have okM : ∀ p ∈ M, p.v.Ok ∧ p.w.Ok K := fun p h => hp p (hM.mem_iff.1 h)
 have z : (rawOf 0).v = .agg [.bool false, nat [], nat [1]] := by rw [zero_c]; rfl
 simp [setOb, List.filter_cons]
 refine callFK_of ratio_Zero (by simp) ?_
 simp [ratV, z]
 refine callFK_of (add0 (Nat.le_refl _) hm.rf) (by simp [zero_c, Raw.v]) ?_
 simp [ratV]
 refine callFK_of ratio_Zero (by simp) ?_
 simp [ratV, z]
 refine callFK_of (add0 (Nat.le_refl _) hm.lo) (by simp [zero_c, Raw.v]) ?_
 simp [ratV, Raw.v, setOb, List.filter_cons]
 refine wm_loop (fun g : Nat => (((((Sl.empty.set 23 (.int .i64 g)).set 4 (.ptr 3 0 0)).set 3 (.ref 2 0 m.parts.length)).set 2 (.ptr 1 0 0)).set 1 (.ptr 0 0 0),
  [(3, ⟨.own, 16, [.nils :: tailG (rawOf m.rf.q) (rawOf m.lo.q) (rawOf m.f0.q) (rawOf m.f1.q) (rawOf m.f2.q) g]⟩), (2, obL M), (1, ⟨.own, 16, [zero16]⟩), (0, ⟨.own, 16, [msC m]⟩)]))
  (fun g => g ≤ 3) (fun g => 3 - g) 0 (by omega) ?_ ?_
 ·refine weak_gen ?_ ?_ (by simp) ?_ ?_
  ·repeat (first | exact sub_empty | refine sub_set (by simp) ?_)
  ·intro o x ho
   simpa [tailG, zero16, msC, tailC] using ho
  ·repeat (first | exact sin_empty | refine sin_set (by simp [V.within, E.look]) ?_)
  ·refine shut_cons (shut_cons (shut_cons (shut_cons shut0 (plain_row (msC_in m))) (plain_row zero16_in)) (plain_L _)) (plain_row (tailG_in _ _ _ _ _ _))
 intro g hg
 by_cases c : g < 3
 ·have hg3 : g = 0 ∨ g = 1 ∨ g = 2 := by omega
  rcases hg3 with rfl | rfl | rfl
  ·simp [tailG, msC, tailC, zero16]
   refine callFK_of ratio_Zero (by simp) ?_
   simp [ratV, z]
   refine callFK_of (add0 (Nat.le_refl _) hm.f0) (by simp [zero_c, Raw.v]) ?_
   simp [ratV, Raw.v, setOb, List.filter_cons]
   rw [wrap64 (by omega) (by omega)]
   refine ⟨1, by omega, by dsimp only; omega, ?_⟩
   refine weak_gen ?_ ?_ (by simp) ?_ (shut_cons (shut_cons (shut_cons (shut_cons shut0 (plain_row (by simp [V.within]))) (plain_row (by simp [V.within]))) (plain_L _)) (plain_row (by simp [V.within])))
   ·repeat (first | exact sub_empty | refine sub_set (by simp) ?_)
   ·intro o x ho
    simpa [tailG, zero16, msC, tailC] using ho
   ·repeat (first | exact sin_empty | refine sin_set (by simp [V.within, E.look]) ?_)
  ·simp [tailG, msC, tailC, zero16]
   refine callFK_of ratio_Zero (by simp) ?_
   simp [ratV, z]
   refine callFK_of (add0 (Nat.le_refl _) hm.f1) (by simp [zero_c, Raw.v]) ?_
   simp [ratV, Raw.v, setOb, List.filter_cons]
   rw [wrap64 (by omega) (by omega)]
   refine ⟨2, by omega, by dsimp only; omega, ?_⟩
   refine weak_gen ?_ ?_ (by simp) ?_ (shut_cons (shut_cons (shut_cons (shut_cons shut0 (plain_row (by simp [V.within]))) (plain_row (by simp [V.within]))) (plain_L _)) (plain_row (by simp [V.within])))
   ·repeat (first | exact sub_empty | refine sub_set (by simp) ?_)
   ·intro o x ho
    simpa [tailG, zero16, msC, tailC] using ho
   ·repeat (first | exact sin_empty | refine sin_set (by simp [V.within, E.look]) ?_)
  ·simp [tailG, msC, tailC, zero16]
   refine callFK_of ratio_Zero (by simp) ?_
   simp [ratV, z]
   refine callFK_of (add0 (Nat.le_refl _) hm.f2) (by simp [zero_c, Raw.v]) ?_
   simp [ratV, Raw.v, setOb, List.filter_cons]
   rw [wrap64 (by omega) (by omega)]
   refine ⟨3, by omega, by dsimp only; omega, ?_⟩
   refine weak_gen ?_ ?_ (by simp) ?_ (shut_cons (shut_cons (shut_cons (shut_cons shut0 (plain_row (by simp [V.within]))) (plain_row (by simp [V.within]))) (plain_L _)) (plain_row (by simp [V.within])))
   ·repeat (first | exact sub_empty | refine sub_set (by simp) ?_)
   ·intro o x ho
    simpa [tailG, zero16, msC, tailC] using ho
   ·repeat (first | exact sin_empty | refine sin_set (by simp [V.within, E.look]) ?_)
 have hg3 : g = 3 := by omega
 subst hg3
 simp [tailG]
 have key : ∀ (x : Ob), True := fun _ => trivial
 refine wm_loop (fun g : Nat × Nat × List Part × Sto => (comeL M g.2.1 g.2.2.1.length g.1, g.2.2.2)) (fun g => CI M (tailC (rawOf m.rf.q) (rawOf m.lo.q) (rawOf m.f0.q) (rawOf m.f1.q) (rawOf m.f2.q)) g.1 g.2.2.1 g.2.1 g.2.2.2) (fun g => M.length - g.1)
  (0, 0, [], [(3, ⟨.own, 16, [.nils :: tailC (rawOf m.rf.q) (rawOf m.lo.q) (rawOf m.f0.q) (rawOf m.f1.q) (rawOf m.f2.q)]⟩), (2, obL M), (1, ⟨.own, 16, [zero16]⟩), (0, ⟨.own, 16, [msC m]⟩)]) ?_ ?_ ?_
 ·refine ⟨Nat.zero_le _, by simp [E.look], by simp [E.look, grown_zero], fun h => (h rfl).elim, fun h => (h rfl).elim, IsN.nil, by simp [E.look], ?_, by simp⟩
  exact shut_cons (shut_cons (shut_cons (shut_cons shut0 (plain_row (msC_in m))) (plain_row zero16_in)) (plain_L _)) (plain_row (by
   intro y hy f
   simp only [List.mem_cons] at hy
   rcases hy with rfl | hy
   ·simp [V.within]
   ·exact tail_in _ _ _ _ _ y hy f))
 ·unfold comeL
  refine weak_gen ?_ ?_ (by simp) ?_ (shut_cons (shut_cons (shut_cons (shut_cons shut0 (plain_row (msC_in m))) (plain_row zero16_in)) (plain_L _)) (plain_row (by
   intro y hy f
   simp only [List.mem_cons] at hy
   rcases hy with rfl | hy
   ·simp [V.within]
   ·exact tail_in _ _ _ _ _ y hy f)))
  ·repeat (first | exact sub_empty | refine sub_set (by simp [lM]) ?_)
  ·intro o x ho
   simpa [tailG, zero16, msC, tailC] using ho
  ·repeat (first | exact sin_empty | refine sin_set (by simp [V.within, E.look]) ?_)
 clear key
 generalize hR : tailC (rawOf m.rf.q) (rawOf m.lo.q) (rawOf m.f0.q) (rawOf m.f1.q) (rawOf m.f2.q) = R
 have hRl : R.length = 15 := by rw [← hR]; rfl
 rintro ⟨i, q, G, τ⟩ I
 dsimp only at I
 have l2 := lt_fresh I.lst
 have l3 := lt_fresh I.out
 have l1 := lt_fresh I.res
 have hlst := I.lst
 have hout := I.out
 unfold comeL
 by_cases c : i < M.length
 ·have okI := okM _ (List.getElem_mem c)
  simp [c]
  refine callK_of ratio_Zero (by simp) ?_
  simp [ratV, z]
  have fo2 : ¬ (2 : Nat) = fresh τ := by omega
  have fo3 : ¬ (3 : Nat) = fresh τ := by omega
  have fo1 : ¬ (1 : Nat) = fresh τ := by omega
  have hl1 : ∀ x : Ob, (E.look (setOb τ (fresh τ) x) 1).isSome = true := fun x => by rw [look_setOb, if_neg fo1, I.res]; rfl
  have hl2 : ∀ x : Ob, (E.look (setOb τ (fresh τ) x) 2).isSome = true := fun x => by rw [look_setOb, if_neg fo2, hlst]; rfl
  have hl3 : ∀ x : Ob, (E.look (setOb τ (fresh τ) x) 3).isSome = true := fun x => by rw [look_setOb, if_neg fo3, hout]; rfl
  have hlf : ∀ x : Ob, (E.look (setOb τ (fresh τ) x) (fresh τ)).isSome = true := fun x => by rw [look_setOb, if_pos rfl]; rfl
  have hfw : ∀ k, Fits (wsum (grp M i k) M[i].v) (2 ^ 31) := fun k => by
   refine (wsum_fits hK (fun p hp => Raw.fits (okM p (grp_mem hp)).2 hK) _).mono ?_
   have h1 : (grp M i k).length * (K + 1) ≤ m.parts.length * (K + 1) := Nat.mul_le_mul_right _ (by rw [← lM]; exact grp_len M i k)
   omega
  have pw : ∀ r : Raw, Plain [[V.bool r.neg, nat r.num, nat r.den]] := fun r => plain_row (by simp [V.within])
  refine wm_loop (fun k : Nat => ((((((Sl.empty.set 8 (.ptr (fresh τ) 0 0)).set 7 (.int .i64 k)).set 6 (.int .i64 i)).set 4 (.ptr 3 0 0)).set 3 (.ref 2 0 M.length)).set 2 (.ptr 1 0 0),
   setOb τ (fresh τ) ⟨.own, 3, [[.bool (rawOf (wsum (grp M i k) M[i].v)).neg, nat (rawOf (wsum (grp M i k) M[i].v)).num, nat (rawOf (wsum (grp M i k) M[i].v)).den]]⟩))
   (fun k => i ≤ k ∧ k ≤ M.length ∧ ∀ p ∈ grp M i k, p.v = M[i].v) (fun k => M.length - k) i ⟨Nat.le_refl _, by omega, by rw [grp_self]; simp⟩ ?_ ?_
  ·rw [setOb2]
   refine weak_gen ?_ ?_ (by simp) ?_ (shut_set I.shut (pw _))
   ·repeat (first | exact sub_empty | refine sub_set (by simp) ?_)
   ·rw [grp_self, wsum_nil, zero_c]
    exact Has.refl _
   ·dsimp only
    repeat (first | exact sin_empty | refine sin_set (by first | (simp; done) | (simp only [within_ref, within_ptr]; first | exact hl1 _ | exact hl2 _ | exact hl3 _ | exact hlf _)) ?_)
  rintro k ⟨k1, k2, k3⟩
  have sv : ∀ x y : Ob, setOb (setOb τ (fresh τ) x) (fresh τ) y = setOb τ (fresh τ) y := fun x y => setOb2 _ _ _ _
  have g2 : ∀ x : Ob, getOb (setOb τ (fresh τ) x) 2 = some (obL M) := fun x => by
   unfold getOb; rw [look_setOb, if_neg fo2, hlst]; rfl
  have gw : ∀ x : Ob, x.st ≠ .dead → getOb (setOb τ (fresh τ) x) (fresh τ) = some x := fun x hx => by
   unfold getOb; rw [look_setOb, if_pos rfl]; simp [hx]
  have lk2 : ∀ x : Ob, E.look (setOb τ (fresh τ) x) 2 = some (obL M) := fun x => by rw [look_setOb, if_neg fo2, hlst]
  have hI31 : ∀ {p : Part}, p ∈ M → p.w.Ok (2 ^ 31) := fun hp => rok (okM _ hp).2 hK31
  by_cases ce : ∃ h : k < M.length, M[k].v = M[i].v
  ·obtain ⟨c1, c2⟩ := ce
   have okk := okM _ (List.getElem_mem c1)
   have fk := hfw k
   have hst : wsum (grp M i (k + 1)) M[i].v = wsum (grp M i k) M[i].v + M[k].w.q := by
    rw [grp_snoc k1 c1, wsum_append, wsum_cons, wsum_nil, if_pos c2, Rat.add_zero]
   simp [c1, c, g2, lk2]
   refine callFK_of (value_Same okk.1 okI.1) (by simp [toD_cells]) ?_
   simp [c2, gw, g2, lk2, c1]
   refine callFK_of (ratio_Add (rawOf_ok fk) (hI31 (List.getElem_mem c1))) (by simp [toD_rawc, raw_v, Raw.c]) ?_
   rw [rawOf_q, ← hst]
   simp [ratV, Raw.v, gw, g2, lk2, sv]
   rw [wrap64 (by omega) (by omega)]
   refine ⟨k + 1, ⟨by omega, by omega, fun p hp => ?_⟩, by dsimp only; omega, ?_⟩
   ·rw [grp_snoc k1 c1] at hp
    rcases List.mem_append.1 hp with hp | hp
    ·exact k3 p hp
    ·simp at hp; subst hp; exact c2
   ·refine weak_gen ?_ (Has.refl _) (by simp) ?_ (shut_set I.shut (pw _))
    ·repeat (first | exact sub_empty | refine sub_set (by simp) ?_)
    ·dsimp only
     repeat (first | exact sin_empty | refine sin_set (by first | (simp; done) | (simp only [within_ref, within_ptr]; first | exact hl1 _ | exact hl2 _ | exact hl3 _ | exact hlf _)) ?_)
  ·have hkb : ∀ h : k < M.length, M[k].v ≠ M[i].v := fun h e => ce ⟨h, e⟩
   have hik : i < k := by
    rcases Nat.lt_or_ge i k with h | h
    ·exact h
    ·have e : k = i := by omega
     subst e
     exact (hkb c rfl).elim
   have fk := hfw k
   have isn' := I.isn.group k3 (fun p hp => I.bnd p hp c)
   rw [← take_grp k1] at isn'
   have bnd' : ∀ p ∈ M.take k, ∀ h : k < M.length, cmpT p.v M[k].v < 0 := fun p hp h => by
    have t1 := hS.le (i := i) (j := k) (Nat.zero_le _) k1 h (List.getElem?_eq_getElem c) (List.getElem?_eq_getElem h)
    have t2 : cmpT M[i].v M[k].v ≠ 0 := fun e => hkb h ((cmpT_zero _ _).1 e).symm
    rw [take_grp k1] at hp
    rcases List.mem_append.1 hp with hp | hp
    ·exact cmpT_trans (I.bnd p hp c) (by omega)
    ·rw [k3 p hp]; omega
   have sgn0 : sgnR (wsum (grp M i k) M[i].v) = 0 ↔ wsum (grp M i k) M[i].v = 0 := by
    constructor
    ·intro h
     by_cases e : wsum (grp M i k) M[i].v = 0
     ·exact e
     ·by_cases e2 : wsum (grp M i k) M[i].v < 0
      ·rw [sgnR_of_neg e2] at h; omega
      ·have : 0 < wsum (grp M i k) M[i].v := by grind
       rw [sgnR_of_pos this] at h; omega
    ·intro h; rw [h]; exact sgnR_zero
   have hsg := ratio_Sign (rok (rawOf_ok fk) (show 2 ^ 31 ≤ 2 ^ 33 by omega))
   rw [rawOf_q] at hsg
   have pre : True := trivial
   by_cases c1 : k < M.length
   ·have okk := okM _ (List.getElem_mem c1)
    simp [c1, c, g2, lk2]
    refine callFK_of (value_Same okk.1 okI.1) (by simp [toD_cells]) ?_
    simp [hkb c1, gw, g2, lk2]
    refine callK_of hsg (by simp [Raw.v]) ?_
    by_cases hz : wsum (grp M i k) M[i].v = 0
    ·simp [sgn0.2 hz]
     rw [if_pos hz] at isn'
     refine ⟨(k, q, G, setOb τ (fresh τ) ⟨.own, 3, [[.bool (rawOf (wsum (grp M i k) M[i].v)).neg, nat (rawOf (wsum (grp M i k) M[i].v)).num, nat (rawOf (wsum (grp M i k) M[i].v)).den]]⟩), ⟨k2, lk2 _, by dsimp only; rw [look_setOb, if_neg fo3, hout], fun h => ?_, I.q2, isn', by dsimp only; rw [look_setOb, if_neg fo1, I.res], shut_set I.shut (pw _), bnd'⟩, by dsimp only; omega, ?_⟩
     ·have := lt_fresh (I.prt h)
      dsimp only
      rw [look_setOb, if_neg (by omega), I.prt h]
     ·refine weak_gen ?_ (Has.refl _) (by simp) ?_ (shut_set I.shut (pw _))
      ·repeat (first | exact sub_empty | refine sub_set (by simp) ?_)
      ·dsimp only
       repeat (first | exact sin_empty | refine sin_set (by first | (simp; done) | (simp only [within_ref, within_ptr]; first | exact hl1 _ | exact hl2 _ | exact hl3 _ | exact hlf _)) ?_)
    ·have hz' : ¬ sgnR (wsum (grp M i k) M[i].v) = 0 := fun h => hz (sgn0.1 h)
     rw [if_neg hz] at isn'
     have ed : List.drop 6 (M[i].v.cells ++ [V.bool false, .nils, .nils]) = [] := List.drop_eq_nil_of_le (by simp)
     have ep : M[i].v.cells ++ [V.bool (rawOf (wsum (grp M i k) M[i].v)).neg, nat (rawOf (wsum (grp M i k) M[i].v)).num, nat (rawOf (wsum (grp M i k) M[i].v)).den] = partC ⟨M[i].v, rawOf (wsum (grp M i k) M[i].v)⟩ := rfl
     have et3 : List.take 3 (M[i].v.cells ++ [V.bool false, .nils, .nils]) = M[i].v.cells := by rw [List.take_append_of_le_length (by simp)]; exact List.take_of_length_le (by simp)
     have hRin : ∀ y ∈ R, ∀ f : Nat → Bool, y.within f = true := by rw [← hR]; exact tail_in _ _ _ _ _
     have hlenG : G.length ≤ 1000000 := by
      have := I.isn
      rw [this.norm]
      refine Nat.le_trans (normP_len _) ?_
      simp; omega
     have hP1 : Plain [partC ⟨M[i].v, rawOf (wsum (grp M i k) M[i].v)⟩] := plain_row fun y hy f => partC_inner _ y hy f
     by_cases hG0 : G = []
     ·subst hG0
      simp (disch := omega) [hz', hout, fo3, fo2, gw, g2, lk2, getOb, hlst, fresh_so, grown_zero, c, ed, ep, Nat.max_eq_left, Nat.max_eq_right, if_neg, if_pos]
      rw [et3, ep]
      obtain ⟨a1, a2, a3, a4⟩ := sto1_look (w := ⟨.own, 3, [[.bool (rawOf (wsum (grp M i k) M[i].v)).neg, nat (rawOf (wsum (grp M i k) M[i].v)).num, nat (rawOf (wsum (grp M i k) M[i].v)).den]]⟩) (P := partC ⟨M[i].v, rawOf (wsum (grp M i k) M[i].v)⟩) (R := R) l3
      have hsO := sto1_shut (w := ⟨.own, 3, [[.bool (rawOf (wsum (grp M i k) M[i].v)).neg, nat (rawOf (wsum (grp M i k) M[i].v)).num, nat (rawOf (wsum (grp M i k) M[i].v)).den]]⟩) (R := R) I.shut (pw (rawOf (wsum (grp M i k) M[i].v))) hP1 hRin
      refine ⟨(k, fresh τ + 1 + 1, [⟨M[i].v, rawOf (wsum (grp M i k) M[i].v)⟩], sto1 τ ⟨.own, 3, [[.bool (rawOf (wsum (grp M i k) M[i].v)).neg, nat (rawOf (wsum (grp M i k) M[i].v)).num, nat (rawOf (wsum (grp M i k) M[i].v)).den]]⟩ (partC ⟨M[i].v, rawOf (wsum (grp M i k) M[i].v)⟩) R), ⟨k2, a2.trans hlst, a3, fun _ => a4, fun _ => by dsimp only; omega, by simpa using isn', a1.trans I.res, hsO, bnd'⟩, by dsimp only; omega, ?_⟩
      refine weak_gen ?_ (Has.refl _) (by simp) ?_ hsO
      ·repeat (first | exact sub_empty | refine sub_set (by simp) ?_)
      ·repeat (first | exact sin_empty | refine sin_set (by first | (simp; done) | (simp only [within_ref, within_ptr, a1, a2, a3, hlst, I.res, Option.isSome_some])) ?_)
     ·have hGn : G.length ≠ 0 := fun h => hG0 (List.length_eq_zero_iff.1 h)
      have hprt := I.prt hG0
      have hq := lt_fresh hprt
      obtain ⟨hq2, hq3, hq1⟩ := I.q2 hG0
      rw [grown_pos hGn] at hout
      simp (disch := omega) [hz', hout, fo3, fo2, gw, g2, lk2, getOb, hlst, fresh_so, c, hprt, ed, ep, Nat.max_eq_left, Nat.max_eq_right, if_neg, if_pos]
      rw [et3, ep]
      obtain ⟨a1, a2, a3, a4⟩ := sto2_look (w := ⟨.own, 3, [[.bool (rawOf (wsum (grp M i k) M[i].v)).neg, nat (rawOf (wsum (grp M i k) M[i].v)).num, nat (rawOf (wsum (grp M i k) M[i].v)).den]]⟩) (P := partC ⟨M[i].v, rawOf (wsum (grp M i k) M[i].v)⟩) (R := R) (q := q) (G := G.map partC) l3 hq hq1 hq2 hq3
      have hsO := sto2_shut (w := ⟨.own, 3, [[.bool (rawOf (wsum (grp M i k) M[i].v)).neg, nat (rawOf (wsum (grp M i k) M[i].v)).num, nat (rawOf (wsum (grp M i k) M[i].v)).den]]⟩) (R := R) (q := q) I.shut (pw (rawOf (wsum (grp M i k) M[i].v))) hP1 (plain_L G) hRin
      have hst2 : ∀ (S : Sto), S = sto2 τ ⟨.own, 3, [[.bool (rawOf (wsum (grp M i k) M[i].v)).neg, nat (rawOf (wsum (grp M i k) M[i].v)).num, nat (rawOf (wsum (grp M i k) M[i].v)).den]]⟩ (partC ⟨M[i].v, rawOf (wsum (grp M i k) M[i].v)⟩) R q (G.map partC) → Has (sto2 τ ⟨.own, 3, [[.bool (rawOf (wsum (grp M i k) M[i].v)).neg, nat (rawOf (wsum (grp M i k) M[i].v)).num, nat (rawOf (wsum (grp M i k) M[i].v)).den]]⟩ (partC ⟨M[i].v, rawOf (wsum (grp M i k) M[i].v)⟩) R q (G.map partC)) S := fun S e => by rw [e]; exact Has.refl _
      refine ⟨(k, fresh τ + 1 + 1, G ++ [⟨M[i].v, rawOf (wsum (grp M i k) M[i].v)⟩], sto2 τ ⟨.own, 3, [[.bool (rawOf (wsum (grp M i k) M[i].v)).neg, nat (rawOf (wsum (grp M i k) M[i].v)).num, nat (rawOf (wsum (grp M i k) M[i].v)).den]]⟩ (partC ⟨M[i].v, rawOf (wsum (grp M i k) M[i].v)⟩) R q (G.map partC)), ⟨k2, a2.trans hlst, ?_, fun _ => ?_, fun _ => by dsimp only; omega, isn', a1.trans I.res, hsO, bnd'⟩, by dsimp only; omega, ?_⟩
      ·dsimp only
       rw [a3, grown_pos (by simp)]
       simp
      ·dsimp only
       rw [a4]
       simp
      ·refine weak_gen ?_ (hst2 _ ?_) (by simp) ?_ hsO
       ·repeat (first | exact sub_empty | refine sub_set (by simp) ?_)
       ·unfold sto2
        rw [List.length_map]
       ·repeat (first | exact sin_empty | refine sin_set (by first | (simp; done) | (simp only [within_ref, within_ptr, a1, a2, a3, hlst, I.res, Option.isSome_some])) ?_)
   ·simp [c1, gw]
    refine callK_of hsg (by simp [Raw.v]) ?_
    by_cases hz : wsum (grp M i k) M[i].v = 0
    ·simp [sgn0.2 hz]
     rw [if_pos hz] at isn'
     refine ⟨(k, q, G, setOb τ (fresh τ) ⟨.own, 3, [[.bool (rawOf (wsum (grp M i k) M[i].v)).neg, nat (rawOf (wsum (grp M i k) M[i].v)).num, nat (rawOf (wsum (grp M i k) M[i].v)).den]]⟩), ⟨k2, lk2 _, by dsimp only; rw [look_setOb, if_neg fo3, hout], fun h => ?_, I.q2, isn', by dsimp only; rw [look_setOb, if_neg fo1, I.res], shut_set I.shut (pw _), bnd'⟩, by dsimp only; omega, ?_⟩
     ·have := lt_fresh (I.prt h)
      dsimp only
      rw [look_setOb, if_neg (by omega), I.prt h]
     ·refine weak_gen ?_ (Has.refl _) (by simp) ?_ (shut_set I.shut (pw _))
      ·repeat (first | exact sub_empty | refine sub_set (by simp) ?_)
      ·dsimp only
       repeat (first | exact sin_empty | refine sin_set (by first | (simp; done) | (simp only [within_ref, within_ptr]; first | exact hl1 _ | exact hl2 _ | exact hl3 _ | exact hlf _)) ?_)
    ·have hz' : ¬ sgnR (wsum (grp M i k) M[i].v) = 0 := fun h => hz (sgn0.1 h)
     rw [if_neg hz] at isn'
     have ed : List.drop 6 (M[i].v.cells ++ [V.bool false, .nils, .nils]) = [] := List.drop_eq_nil_of_le (by simp)
     have ep : M[i].v.cells ++ [V.bool (rawOf (wsum (grp M i k) M[i].v)).neg, nat (rawOf (wsum (grp M i k) M[i].v)).num, nat (rawOf (wsum (grp M i k) M[i].v)).den] = partC ⟨M[i].v, rawOf (wsum (grp M i k) M[i].v)⟩ := rfl
     have et3 : List.take 3 (M[i].v.cells ++ [V.bool false, .nils, .nils]) = M[i].v.cells := by rw [List.take_append_of_le_length (by simp)]; exact List.take_of_length_le (by simp)
     have hRin : ∀ y ∈ R, ∀ f : Nat → Bool, y.within f = true := by rw [← hR]; exact tail_in _ _ _ _ _
     have hlenG : G.length ≤ 1000000 := by
      have := I.isn
      rw [this.norm]
      refine Nat.le_trans (normP_len _) ?_
      simp; omega
     have hP1 : Plain [partC ⟨M[i].v, rawOf (wsum (grp M i k) M[i].v)⟩] := plain_row fun y hy f => partC_inner _ y hy f
     by_cases hG0 : G = []
     ·subst hG0
      simp (disch := omega) [hz', hout, fo3, fo2, gw, g2, lk2, getOb, hlst, fresh_so, grown_zero, c, ed, ep, Nat.max_eq_left, Nat.max_eq_right, if_neg, if_pos]
      rw [et3, ep]
      obtain ⟨a1, a2, a3, a4⟩ := sto1_look (w := ⟨.own, 3, [[.bool (rawOf (wsum (grp M i k) M[i].v)).neg, nat (rawOf (wsum (grp M i k) M[i].v)).num, nat (rawOf (wsum (grp M i k) M[i].v)).den]]⟩) (P := partC ⟨M[i].v, rawOf (wsum (grp M i k) M[i].v)⟩) (R := R) l3
      have hsO := sto1_shut (w := ⟨.own, 3, [[.bool (rawOf (wsum (grp M i k) M[i].v)).neg, nat (rawOf (wsum (grp M i k) M[i].v)).num, nat (rawOf (wsum (grp M i k) M[i].v)).den]]⟩) (R := R) I.shut (pw (rawOf (wsum (grp M i k) M[i].v))) hP1 hRin
      refine ⟨(k, fresh τ + 1 + 1, [⟨M[i].v, rawOf (wsum (grp M i k) M[i].v)⟩], sto1 τ ⟨.own, 3, [[.bool (rawOf (wsum (grp M i k) M[i].v)).neg, nat (rawOf (wsum (grp M i k) M[i].v)).num, nat (rawOf (wsum (grp M i k) M[i].v)).den]]⟩ (partC ⟨M[i].v, rawOf (wsum (grp M i k) M[i].v)⟩) R), ⟨k2, a2.trans hlst, a3, fun _ => a4, fun _ => by dsimp only; omega, by simpa using isn', a1.trans I.res, hsO, bnd'⟩, by dsimp only; omega, ?_⟩
      refine weak_gen ?_ (Has.refl _) (by simp) ?_ hsO
      ·repeat (first | exact sub_empty | refine sub_set (by simp) ?_)
      ·repeat (first | exact sin_empty | refine sin_set (by first | (simp; done) | (simp only [within_ref, within_ptr, a1, a2, a3, hlst, I.res, Option.isSome_some])) ?_)
     ·have hGn : G.length ≠ 0 := fun h => hG0 (List.length_eq_zero_iff.1 h)
      have hprt := I.prt hG0
      have hq := lt_fresh hprt
      obtain ⟨hq2, hq3, hq1⟩ := I.q2 hG0
      rw [grown_pos hGn] at hout
      simp (disch := omega) [hz', hout, fo3, fo2, gw, g2, lk2, getOb, hlst, fresh_so, c, hprt, ed, ep, Nat.max_eq_left, Nat.max_eq_right, if_neg, if_pos]
      rw [et3, ep]
      obtain ⟨a1, a2, a3, a4⟩ := sto2_look (w := ⟨.own, 3, [[.bool (rawOf (wsum (grp M i k) M[i].v)).neg, nat (rawOf (wsum (grp M i k) M[i].v)).num, nat (rawOf (wsum (grp M i k) M[i].v)).den]]⟩) (P := partC ⟨M[i].v, rawOf (wsum (grp M i k) M[i].v)⟩) (R := R) (q := q) (G := G.map partC) l3 hq hq1 hq2 hq3
      have hsO := sto2_shut (w := ⟨.own, 3, [[.bool (rawOf (wsum (grp M i k) M[i].v)).neg, nat (rawOf (wsum (grp M i k) M[i].v)).num, nat (rawOf (wsum (grp M i k) M[i].v)).den]]⟩) (R := R) (q := q) I.shut (pw (rawOf (wsum (grp M i k) M[i].v))) hP1 (plain_L G) hRin
      have hst2 : ∀ (S : Sto), S = sto2 τ ⟨.own, 3, [[.bool (rawOf (wsum (grp M i k) M[i].v)).neg, nat (rawOf (wsum (grp M i k) M[i].v)).num, nat (rawOf (wsum (grp M i k) M[i].v)).den]]⟩ (partC ⟨M[i].v, rawOf (wsum (grp M i k) M[i].v)⟩) R q (G.map partC) → Has (sto2 τ ⟨.own, 3, [[.bool (rawOf (wsum (grp M i k) M[i].v)).neg, nat (rawOf (wsum (grp M i k) M[i].v)).num, nat (rawOf (wsum (grp M i k) M[i].v)).den]]⟩ (partC ⟨M[i].v, rawOf (wsum (grp M i k) M[i].v)⟩) R q (G.map partC)) S := fun S e => by rw [e]; exact Has.refl _
      refine ⟨(k, fresh τ + 1 + 1, G ++ [⟨M[i].v, rawOf (wsum (grp M i k) M[i].v)⟩], sto2 τ ⟨.own, 3, [[.bool (rawOf (wsum (grp M i k) M[i].v)).neg, nat (rawOf (wsum (grp M i k) M[i].v)).num, nat (rawOf (wsum (grp M i k) M[i].v)).den]]⟩ (partC ⟨M[i].v, rawOf (wsum (grp M i k) M[i].v)⟩) R q (G.map partC)), ⟨k2, a2.trans hlst, ?_, fun _ => ?_, fun _ => by dsimp only; omega, isn', a1.trans I.res, hsO, bnd'⟩, by dsimp only; omega, ?_⟩
      ·dsimp only
       rw [a3, grown_pos (by simp)]
       simp
      ·dsimp only
       rw [a4]
       simp
      ·refine weak_gen ?_ (hst2 _ ?_) (by simp) ?_ hsO
       ·repeat (first | exact sub_empty | refine sub_set (by simp) ?_)
       ·unfold sto2
        rw [List.length_map]
       ·repeat (first | exact sin_empty | refine sin_set (by first | (simp; done) | (simp only [within_ref, within_ptr, a1, a2, a3, hlst, I.res, Option.isSome_some])) ?_)
 ·have hil : i = M.length := by have := I.le; omega
  subst hil
  have hisn := I.isn
  rw [List.take_length] at hisn
  have hG := hisn.norm
  simp
  have hres := I.res
  have hRt : List.take 15 R = R := List.take_of_length_le (by omega)
  simp [hout, hres, getOb, hRl, hRt, zero16]
  have hGN : G = normP m.parts := by rw [hG]; exact normP_ext fun v => wsum_perm hM v
  have hRD : ∀ (σ : Sto), mapO (toD σ 11) R = some R := fun σ => by rw [← hR]; simp [tailC]
  rw [hRD]
  have hT : toD (setOb τ 1 ⟨.own, 16, [grown q G.length :: R]⟩) 11 (grown q G.length) = some (pl G) := by
   rw [toD_grown (k := 10) (st := .own) (es := 6) (l := G.map partC) (fun h => ?_) (by simp) (by simp) (by simp) (fun r hr => by obtain ⟨p, _, rfl⟩ := List.mem_map.1 hr; exact toD_partC _ _ _)]
   have hG0 : G ≠ [] := fun e => h (by rw [e]; rfl)
   rw [look_setOb, if_neg (I.q2 hG0).2.2]
   exact I.prt hG0
  rw [hT]
  simp only [Option.some.injEq]
  show pl G :: R = pl (normM m).parts :: tailC (normM m).rf (normM m).lo (normM m).f0 (normM m).f1 (normM m).f2
  rw [hGN, ← hR]
  rfl
set_option maxHeartbeats 8000000 in
theorem weights_come0 {m : Ms} {K : Nat} (h0 : m.parts = []) (hK31 : K ≤ 2 ^ 31) (hm : m.Ok K) : CallD Tryz.prog F.weights_come [m.v] (· = (normM m).v) := by
 refine callD_by F.weights_come_ok ?_
 unfold F.weights_come_c
 have z : (rawOf 0).v = .agg [.bool false, nat [], nat [1]] := by rw [zero_c]; rfl
 simp [setOb, List.filter_cons, msC, tailC, h0]
 refine callK_of clone_Part0 (by simp) ?_
 simp
 refine callK_of sort_none (by simp) ?_
 simp
 refine callFK_of ratio_Zero (by simp) ?_
 simp [ratV, z]
 refine callFK_of (add0 hK31 hm.rf) (by simp [zero_c, Raw.v]) ?_
 simp [ratV]
 refine callFK_of ratio_Zero (by simp) ?_
 simp [ratV, z]
 refine callFK_of (add0 hK31 hm.lo) (by simp [zero_c, Raw.v]) ?_
 simp [ratV, Raw.v, setOb, List.filter_cons]
 refine wm_loop (fun g : Nat => (((((Sl.empty.set 23 (.int .i64 g)).set 4 (.ptr 2 0 0)).set 3 (.dat [])).set 2 (.ptr 1 0 0)).set 1 (.ptr 0 0 0),
  [(2, ⟨.own, 16, [.nils :: tailG (rawOf m.rf.q) (rawOf m.lo.q) (rawOf m.f0.q) (rawOf m.f1.q) (rawOf m.f2.q) g]⟩), (1, ⟨.own, 16, [zero16]⟩), (0, ⟨.own, 16, [msC m]⟩)]))
  (fun g => g ≤ 3) (fun g => 3 - g) 0 (by omega) ?_ ?_
 ·refine weak_gen ?_ ?_ (by simp) ?_ ?_
  ·repeat (first | exact sub_empty | refine sub_set (by simp) ?_)
  ·intro o x ho
   simpa [tailG, zero16, msC, tailC, h0] using ho
  ·repeat (first | exact sin_empty | refine sin_set (by simp [V.within, E.look]) ?_)
  ·refine shut_cons (shut_cons (shut_cons shut0 (plain_row (msC_in m))) (plain_row zero16_in)) (plain_row (tailG_in _ _ _ _ _ _))
 intro g hg
 by_cases c : g < 3
 ·have hg3 : g = 0 ∨ g = 1 ∨ g = 2 := by omega
  rcases hg3 with rfl | rfl | rfl
  ·simp [tailG, msC, tailC, zero16]
   refine callFK_of ratio_Zero (by simp) ?_
   simp [ratV, z]
   refine callFK_of (add0 hK31 hm.f0) (by simp [zero_c, Raw.v]) ?_
   simp [ratV, Raw.v, setOb, List.filter_cons]
   rw [wrap64 (by omega) (by omega)]
   refine ⟨1, by omega, by dsimp only; omega, ?_⟩
   refine weak_gen ?_ ?_ (by simp) ?_ (shut_cons (shut_cons (shut_cons shut0 (plain_row (by simp [V.within]))) (plain_row (by simp [V.within]))) (plain_row (by simp [V.within])))
   ·repeat (first | exact sub_empty | refine sub_set (by simp) ?_)
   ·intro o x ho
    simpa [tailG, zero16, msC, tailC, h0] using ho
   ·repeat (first | exact sin_empty | refine sin_set (by simp [V.within, E.look]) ?_)
  ·simp [tailG, msC, tailC, zero16]
   refine callFK_of ratio_Zero (by simp) ?_
   simp [ratV, z]
   refine callFK_of (add0 hK31 hm.f1) (by simp [zero_c, Raw.v]) ?_
   simp [ratV, Raw.v, setOb, List.filter_cons]
   rw [wrap64 (by omega) (by omega)]
   refine ⟨2, by omega, by dsimp only; omega, ?_⟩
   refine weak_gen ?_ ?_ (by simp) ?_ (shut_cons (shut_cons (shut_cons shut0 (plain_row (by simp [V.within]))) (plain_row (by simp [V.within]))) (plain_row (by simp [V.within])))
   ·repeat (first | exact sub_empty | refine sub_set (by simp) ?_)
   ·intro o x ho
    simpa [tailG, zero16, msC, tailC, h0] using ho
   ·repeat (first | exact sin_empty | refine sin_set (by simp [V.within, E.look]) ?_)
  ·simp [tailG, msC, tailC, zero16]
   refine callFK_of ratio_Zero (by simp) ?_
   simp [ratV, z]
   refine callFK_of (add0 hK31 hm.f2) (by simp [zero_c, Raw.v]) ?_
   simp [ratV, Raw.v, setOb, List.filter_cons]
   rw [wrap64 (by omega) (by omega)]
   refine ⟨3, by omega, by dsimp only; omega, ?_⟩
   refine weak_gen ?_ ?_ (by simp) ?_ (shut_cons (shut_cons (shut_cons shut0 (plain_row (by simp [V.within]))) (plain_row (by simp [V.within]))) (plain_row (by simp [V.within])))
   ·repeat (first | exact sub_empty | refine sub_set (by simp) ?_)
   ·intro o x ho
    simpa [tailG, zero16, msC, tailC, h0] using ho
   ·repeat (first | exact sin_empty | refine sin_set (by simp [V.within, E.look]) ?_)
 have hg3 : g = 3 := by omega
 subst hg3
 simp [tailG]
 refine wm_loop (fun g : Nat => ((((Sl.empty.set 6 (.int .i64 0)).set 4 (.ptr 2 0 0)).set 3 (.dat [])).set 2 (.ptr 1 0 0),
  [(2, ⟨.own, 16, [.nils :: tailC (rawOf m.rf.q) (rawOf m.lo.q) (rawOf m.f0.q) (rawOf m.f1.q) (rawOf m.f2.q)]⟩), (1, ⟨.own, 16, [zero16]⟩), (0, ⟨.own, 16, [msC m]⟩)])) (fun _ => True) (fun g => g) 0 trivial ?_ ?_
 ·refine weak_gen ?_ ?_ (by simp) ?_ ?_
  ·repeat (first | exact sub_empty | refine sub_set (by simp) ?_)
  ·intro o x ho
   simpa [tailG, zero16, msC, tailC] using ho
  ·repeat (first | exact sin_empty | refine sin_set (by simp [V.within, E.look]) ?_)
  ·refine shut_cons (shut_cons (shut_cons shut0 (plain_row (msC_in m))) (plain_row zero16_in)) (plain_row (by
    intro y hy f
    simp only [List.mem_cons] at hy
    rcases hy with rfl | hy
    ·simp [V.within]
    ·exact tail_in _ _ _ _ _ y hy f))
 rintro g -
 simp [tailC, zero16, setOb, List.filter_cons]
 have hn : normP m.parts = [] := by rw [h0]; rfl
 simp [msC, normM, tailC, hn]
theorem weights_comeB {m : Ms} {K : Nat} (hK : 1 ≤ K) (hp : ∀ p ∈ m.parts, p.v.Ok ∧ p.w.Ok K) (hm : m.Ok (2 ^ 31)) (hb : 1 + m.parts.length * (K + 1) ≤ 2 ^ 31) (hn : m.parts.length ≤ 1000000) : CallD Tryz.prog F.weights_come [m.v] (· = (normM m).v) := by
 by_cases h0 : m.parts = []
 ·exact weights_come0 h0 (Nat.le_refl _) hm
 ·exact weights_come h0 hK hp hm hb hn
theorem weights_comeA {m : Ms} {K : Nat} (hK : 1 ≤ K) (hK31 : K ≤ 2 ^ 31) (hm : m.Ok K) (hb : 1 + m.parts.length * (K + 1) ≤ 2 ^ 31) (hn : m.parts.length ≤ 1000000) : CallD Tryz.prog F.weights_come [m.v] (· = (normM m).v) :=
 weights_comeB hK hm.parts ⟨fun p hp => ⟨(hm.parts p hp).1, rok (hm.parts p hp).2 hK31⟩, rok hm.rf hK31, rok hm.lo hK31, rok hm.f0 hK31, rok hm.f1 hK31, rok hm.f2 hK31⟩ hb hn
end Go.Proofs.YtmjgehbpcchjpaaGreatDoor
