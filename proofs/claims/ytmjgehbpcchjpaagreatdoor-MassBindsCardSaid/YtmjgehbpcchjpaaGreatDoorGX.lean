import Derived.Test.YtmjgehbpcchjpaaGreatDoorGS
import Derived.Test.YtmjgehbpcchjpaaGreatDoorGP
import Derived.Test.YtmjgehbpcchjpaaGreatDoorGC
import Derived.Test.YtmjgehbpcchjpaaGreatDoorProg
import Derived.KernelRfl
import Derived.Test.YtmjgehbpcchjpaaGreatDoorGD
namespace Go.Proofs.YtmjgehbpcchjpaaGreatDoor.F
open Go Go.Proofs Go.Proofs.YtmjgehbpcchjpaaGreatDoor.E Go.Proofs.YtmjgehbpcchjpaaGreatDoor.Q
abbrev slices_Grow_Part_Part : Nat := 169
def slices_Grow_Part_Part_c : MFn := ⟨27,(.seq (r [o 4 (.mv (.c .nils))] [0,1]) (.seq (.seq (r [o 5 (.mv (.t 1)),o 6 (.bin .lss (.t 5) (i 0))] [0,1,6]) (.cond (.t 6) (r [o 7 (.mkI 9 (.c (.str ⟨#[99,97,110,110,111,116,32,98,101,32,110,101,103,97,116,105,118,101]⟩))),z (.no)] [0,1]) .skip)) (.seq (.seq (r [o 8 (.mv (.t 1)),o 9 (.mv (.t 0)),o 10 (.capN (.t 9)),o 11 (.mv (.t 0)),o 12 (.lenS (.t 11)),o 13 (.bin .sub (.t 10) (.t 12)),o 14 (.bin .sub (.t 8) (.t 13)),o 1 (.mv (.t 14))] [0,1]) (.seq (r [o 15 (.mv (.t 1)),o 16 (.bin .gtr (.t 15) (i 0))] [0,1,16]) (.cond (.t 16) (r [o 17 (.mv (.t 0)),o 18 (.mv (.t 0)),o 19 (.capN (.t 18)),o 20 (.slc 6 (.t 17) none (some (.t 19)) none),o 21 (.mv (.t 1)),o 22 (.appN 6 96 zP (.t 20) (.t 21)),o 23 (.mv (.t 0)),o 24 (.lenS (.t 23)),o 25 (.slc 6 (.t 22) none (some (.t 24)) none),o 0 (.mv (.t 25))] [0]) .skip))) (.seq (r [o 26 (.mv (.t 0)),o 4 (.mv (.t 26))] [4]) .ret)))),[.t 4]⟩
theorem slices_Grow_Part_Part_ok : cFn Tryz.prog (kps [[0,1],[0,1,6],[0,1],[0,1],[0,1,16],[0],[4]]) [] 169 = some slices_Grow_Part_Part_c := by kernel_rfl
abbrev slices_Concat_Part_Part : Nat := 132
def slices_Concat_Part_Part_c : MFn := ⟨36,(.seq (r [o 2 (.mv (.c .nils))] [0]) (.seq (r [o 3 (.mv (i 0))] [0,3]) (.seq (.seq (r [o 9 (.mv (.t 0)),o 10 (.lenS (.t 9)),o 11 (.mv (i 0))] [0,3,9,10,11]) (.block 0 (.loop (.seq (r [o 12 (.bin .lss (.t 11) (.t 10))] [0,3,9,10,11,12]) (.seq (.cond (.t 12) .skip (.exit 0)) (.seq (.block 1 (.seq (r [o 13 (.ixA 1 (.t 9) (.t 11)),o 14 (.ld none (.t 13)),o 5 (.mv (.t 14))] [0,3,5,9,10,11]) (.seq (r [o 15 (.mv (.t 3)),o 16 (.mv (.t 5)),o 17 (.lenS (.t 16)),o 18 (.bin .add (.t 15) (.t 17)),o 3 (.mv (.t 18))] [0,3,9,10,11]) (.seq (r [o 19 (.mv (.t 3)),o 20 (.bin .lss (.t 19) (i 0))] [0,3,9,10,11,20]) (.cond (.t 20) (r [o 21 (.mkI 9 (.c (.str ⟨#[108,101,110,32,111,117,116,32,111,102,32,114,97,110,103,101]⟩))),z (.no)] [0,3,9,10,11]) .skip))))) (r [o 22 (.bin .add (.t 11) (i 1)),o 11 (.mv (.t 22))] [0,3,9,10,11]))))))) (.seq (r [o 23 (.mv (.t 3)),o 24 (.call 169 [(.c .nils),(.t 23)]),o 6 (.mv (.t 24))] [0,6]) (.seq (.seq (r [o 25 (.mv (.t 0)),o 26 (.lenS (.t 25)),o 27 (.mv (i 0))] [6,25,26,27]) (.block 2 (.loop (.seq (r [o 28 (.bin .lss (.t 27) (.t 26))] [6,25,26,27,28]) (.seq (.cond (.t 28) .skip (.exit 2)) (.seq (.block 3 (.seq (r [o 29 (.ixA 1 (.t 25) (.t 27)),o 30 (.ld none (.t 29)),o 8 (.mv (.t 30))] [6,8,25,26,27]) (r [o 31 (.mv (.t 6)),o 32 (.mv (.t 8)),o 33 (.app 6 96 (.t 31) (.t 32)),o 6 (.mv (.t 33))] [6,25,26,27]))) (r [o 34 (.bin .add (.t 27) (i 1)),o 27 (.mv (.t 34))] [6,25,26,27]))))))) (.seq (r [o 35 (.mv (.t 6)),o 2 (.mv (.t 35))] [2]) .ret)))))),[.t 2]⟩
theorem slices_Concat_Part_Part_ok : cFn Tryz.prog (kps [[0],[0,3],[0,3,9,10,11],[0,3,9,10,11,12],[0,3,5,9,10,11],[0,3,9,10,11],[0,3,9,10,11,20],[0,3,9,10,11],[0,3,9,10,11],[0,6],[6,25,26,27],[6,25,26,27,28],[6,8,25,26,27],[6,25,26,27],[6,25,26,27],[2]]) [] 132 = some slices_Concat_Part_Part_c := by kernel_rfl
end Go.Proofs.YtmjgehbpcchjpaaGreatDoor.F

namespace Go.Proofs.YtmjgehbpcchjpaaGreatDoor
open Go Go.Proofs Go.Proofs.YtmjgehbpcchjpaaGreatDoor.E
set_option linter.unusedSimpArgs false
set_option linter.unusedVariables false
def nt : List V := [.int .i64 0, .int .i64 0, .nils, .bool false, .nils, .nils]
theorem eM : ∀ y ∈ nt, ∀ p : Nat → Bool, y.within p = true := by
 intro y hy p
 simp [nt] at hy
 rcases hy with rfl | rfl | rfl | rfl <;> simp
theorem gL {n : Nat} (h0 : 0 < n) (h1 : n ≤ 1000) : CallX Tryz.prog F.slices_Grow_Part_Part [.nils, .int .i64 n] [] (fun v s => ∃ q, v = .ref q 0 0 ∧ s = [(q, ⟨.own, 6, List.replicate n nt⟩)]) := by
 refine cF F.slices_Grow_Part_Part_ok ?_
 unfold F.slices_Grow_Part_Part_c
 have e1 : ¬ (n : Int) < 0 := by omega
 have w0 : IntKind.i64.wrap 0 = 0 := ap (by omega) (by omega)
 have w1 : IntKind.i64.wrap (n : Int) = n := ap (by omega) (by omega)
 have e2 : (0 : Int) < n := by omega
 have e4 : ((n : Int) - 0) = n := by omega
 simp [e1, w0, w1, e2, e4]
 rw [if_pos (by omega)]
 simp [ag, List.filter_cons]
 refine ⟨fun _ => ?_, fun h => by omega⟩
 refine bQ (r := .ref 0 0 0) (l := [.ref 0 0 0]) (σ1 := [(0, ⟨.own, 6, List.replicate n nt⟩)]) (by simp) (by simp) rfl (Has.refl _) (by simp) (shut_of fun p hp r hr y hy => ?_) (by simp [E.look]) ⟨0, rfl, rfl⟩
 simp only [List.mem_singleton] at hp; subst hp
 have := (List.mem_replicate.1 hr).2; subst this
 exact eM y hy _
theorem nE {a b : List Part} (ha : a ≠ []) (hb : b ≠ []) (la : a.length ≤ 400) (lb : b.length ≤ 400) : CallD Tryz.prog F.slices_Concat_Part_Part [.dat [[pl a], [pl b]]] (· = pl (a ++ b)) := by
 have a0 : 0 < a.length := List.length_pos_iff.2 ha
 have b0 : 0 < b.length := List.length_pos_iff.2 hb
 refine aB F.slices_Concat_Part_Part_ok ?_
 unfold F.slices_Concat_Part_Part_c
 simp
 refine aH (fun g : Nat => (((((Sl.empty.set 11 (.int .i64 g)).set 10 (.int .i64 2)).set 9 (.dat [[pl a], [pl b]])).set 3 (.int .i64 (if g = 0 then 0 else if g = 1 then (a.length : Int) else a.length + b.length))).set 0 (.dat [[pl a], [pl b]]), [])) (fun g => g ≤ 2) (fun g => 2 - g) 0 (by omega) ?_ ?_
 ·exact bU (by repeat (first | exact af | refine aj (by simp) ?_)) (by repeat (first | exact ac | refine ah (by simp) ?_))
 intro g hg
 rcases (show g = 0 ∨ g = 1 ∨ g = 2 by omega) with rfl | rfl | rfl
 ·simp
  rw [ap (by omega) (by omega)]
  have e1 : ¬ (a.length : Int) < 0 := by omega
  simp [e1]
  rw [ap (by omega) (by omega)]
  refine ⟨1, by omega, by dsimp only; omega, ?_⟩
  exact bU (by repeat (first | exact af | refine aj (by simp) ?_)) (by repeat (first | exact ac | refine ah (by simp) ?_))
 ·simp
  rw [ap (by omega) (by omega)]
  have e1 : ¬ (a.length : Int) + b.length < 0 := by omega
  simp only [e1, decide_false]
  simp
  rw [ap (by omega) (by omega)]
  intro _
  refine ⟨2, by omega, by dsimp only; omega, ?_⟩
  exact bU (by repeat (first | exact af | refine aj (by simp) ?_)) (by repeat (first | exact ac | refine ah (by simp) ?_))
 simp
 have hG := gL (n := a.length + b.length) (by omega) (by omega)
 have ec : ((a.length + b.length : Nat) : Int) = (a.length : Int) + b.length := by omega
 rw [ec] at hG
 refine cB hG ?_
 rintro r s ⟨q, rfl, rfl⟩
 simp
 refine aH (fun g : Nat × Nat => ((((Sl.empty.set 27 (.int .i64 g.2)).set 26 (.int .i64 2)).set 25 (.dat [[pl a], [pl b]])).set 6 (.ref g.1 0 (if g.2 = 0 then 0 else if g.2 = 1 then a.length else a.length + b.length)),
  [(g.1, ⟨.own, 6, if g.2 = 0 then List.replicate (a.length + b.length) nt else if g.2 = 1 then a.map aA else (a ++ b).map aA⟩)]))
  (fun g => g.2 ≤ 2) (fun g => 2 - g.2) (q, 0) (by simp) ?_ ?_
 ·refine aJ ?_ (by simp) (by repeat (first | exact ac | refine ah (by simp) ?_)) (fun p hp r hr y hy => ?_)
  ·repeat (first | exact af | refine aj (by simp) ?_)
  ·simp at hp; subst hp
   have := (List.mem_replicate.1 hr).2; subst this
   exact eM y hy _
 have hw : ∀ l : List Part, dV (l.map aA) := fun l r hr y hy p => by
  obtain ⟨x, _, rfl⟩ := List.mem_map.1 hr
  simp [aA] at hy
  rcases hy with hy | hy
  ·exact cX _ y hy
  ·exact bx _ y hy
 have hall : ∀ l : List Part, ((l.map aA).all fun r => r.length == 6) = true := fun l => by simp
 rintro ⟨q, g⟩ hg
 dsimp only at hg
 rcases (show g = 0 ∨ g = 1 ∨ g = 2 by omega) with rfl | rfl | rfl
 ·obtain ⟨p, a', rfl⟩ := List.exists_cons_of_ne_nil ha
  simp at la
  simp
  rw [if_neg (by omega), if_pos (by omega)]
  simp
  rw [ap (by omega) (by omega)]
  refine ⟨(q + 1, 1), by simp, by dsimp only; omega, ?_⟩
  refine aJ ?_ (by simp) (by repeat (first | exact ac | refine ah (by simp) ?_)) (fun x hx r hr y hy => ?_)
  ·repeat (first | exact af | refine aj (by simp) ?_)
  ·simp at hx; subst hx
   exact hw (p :: a') r (by simpa using hr) y hy _
 ·obtain ⟨p, b', rfl⟩ := List.exists_cons_of_ne_nil hb
  simp at lb
  simp
  rw [if_pos (by omega)]
  simp
  rw [ap (by omega) (by omega)]
  refine ⟨(q + 1, 2), by simp, by dsimp only; omega, ?_⟩
  refine aJ ?_ (by simp) (by repeat (first | exact ac | refine ah (by simp) ?_)) (fun x hx r hr y hy => ?_)
  ·repeat (first | exact af | refine aj (by simp) ?_)
  ·simp at hx; subst hx
   exact hw (a ++ p :: b') r (by simpa using hr) y hy _
 ·simp
  rw [E.toD_ref (k := 11) (st := .own) (es := 6) (l := (a ++ b).map aA) (by simp [E.look]) (by simp) (by simp) (by simp) (by omega) (fun r hr => by
   obtain ⟨x, _, rfl⟩ := List.mem_map.1 hr; exact bG _ _ _)]
end Go.Proofs.YtmjgehbpcchjpaaGreatDoor
