set_option linter.unusedVariables false
set_option linter.unusedSimpArgs false
namespace Go.Proofs.YtmjgehbpcchjpaaGreatDoor.E
inductive Tr where
 | mk (k n : Int) (l : List Tr)
def Tr.k : Tr → Int | .mk k _ _ => k
def Tr.n : Tr → Int | .mk _ n _ => n
def Tr.l : Tr → List Tr | .mk _ _ l => l
theorem Tr.ind {p : Tr → Prop} (h : ∀ k n l, (∀ x ∈ l, p x) → p (.mk k n l)) : ∀ t, p t
 | .mk k n l => h k n l fun x hx => Tr.ind h x
inductive Tr.Ok : Tr → Prop
 | mk {k n : Int} {l : List Tr} (hk : -9223372036854775808 ≤ k ∧ k < 9223372036854775808) (hn : -9223372036854775808 ≤ n ∧ n < 9223372036854775808) (hl : l.length < 9223372036854775808) (h : ∀ x ∈ l, x.Ok) : Tr.Ok (.mk k n l)
def dk (a b : Int) : Int := if a < b then -1 else if b < a then 1 else 0
def orI (a b : Int) : Int := if a = 0 then b else a
mutual
def bJ : Tr → Tr → Int
 | .mk k n l, .mk k' n' l' => orI (dk k k') (orI (dk n n') (cW l l'))
def cW : List Tr → List Tr → Int
 | [], [] => 0
 | [], _ :: _ => -1
 | _ :: _, [] => 1
 | a :: l, b :: m => orI (bJ a b) (cW l m)
end
theorem fB (k n l k' n' l') : bJ (.mk k n l) (.mk k' n' l') = orI (dk k k') (orI (dk n n') (cW l l')) := by rw [bJ]
theorem kB {a b : Int} : dk a b = 0 ↔ a = b := by unfold dk; split; omega; split <;> omega
theorem j7 {a b : Int} : orI a b = 0 ↔ a = 0 ∧ b = 0 := by unfold orI; split <;> simp_all
theorem nN {l m : List Tr} {i : Nat} (hi : i < l.length) (hm : i < m.length) : cW (l.drop i) (m.drop i) = orI (bJ l[i] m[i]) (cW (l.drop (i + 1)) (m.drop (i + 1))) := by
 rw [List.drop_eq_getElem_cons hi, List.drop_eq_getElem_cons hm, cW]
theorem bP : ∀ (a b : Tr), bJ a b = 0 ↔ a = b := by
 intro a
 induction a using Tr.ind with
 | h k n l ih =>
   intro b
   cases b with
   | mk k' n' l' =>
     rw [fB, j7, j7, kB, kB]
     have hl : cW l l' = 0 ↔ l = l' := by
      clear k n k' n'
      induction l generalizing l' with
      | nil => cases l' <;> simp [cW]
      | cons a l ihl =>
        cases l' with
        | nil => simp [cW]
        | cons b l' =>
          rw [cW, j7, ih a (by simp), ihl (fun x hx => ih x (by simp [hx]))]
          simp
     rw [hl]
     simp
theorem de (a : Tr) : bJ a a = 0 := (bP a a).2 rfl
mutual
/-- How many nodes. -/
def cQ : Tr → Nat
 | .mk _ _ l => eH l + 1
def eH : List Tr → Nat
 | [] => 0
 | a :: l => cQ a + eH l
end
theorem lQ (k n l) : cQ (.mk k n l) = eH l + 1 := by rw [cQ]
theorem kW (l m : List Tr) : eH (l ++ m) = eH l + eH m := by
 induction l with
 | nil => simp [eH]
 | cons a l ih => simp only [List.cons_append, eH, ih]; omega
theorem nP {l : List Tr} {i : Nat} (h : i < l.length) : eH (l.take (i + 1)) = eH (l.take i) + cQ l[i] := by
 rw [List.take_succ_eq_append_getElem h, kW]; simp [eH]
theorem qR (l : List Tr) (i : Nat) : eH l = eH (l.take i) + eH (l.drop i) := by
 rw [← kW, List.take_append_drop]
theorem cntT_pos (a : Tr) : 0 < cQ a := by cases a; rw [lQ]; omega
end Go.Proofs.YtmjgehbpcchjpaaGreatDoor.E

set_option linter.unusedVariables false
set_option linter.unusedSimpArgs false
namespace Go.Proofs.YtmjgehbpcchjpaaGreatDoor.E
inductive Ty where
 | mk (k : Int) (l : List Ty)
def Ty.k : Ty → Int | .mk k _ => k
def Ty.l : Ty → List Ty | .mk _ l => l
theorem Ty.ind {p : Ty → Prop} (h : ∀ k l, (∀ x ∈ l, p x) → p (.mk k l)) : ∀ t, p t
 | .mk k l => h k l fun x hx => Ty.ind h x
inductive Ty.Ok : Ty → Prop
 | mk {k : Int} {l : List Ty} (hl : l.length ≤ 4) (h : ∀ x ∈ l, x.Ok) : Ty.Ok (.mk k l)
end Go.Proofs.YtmjgehbpcchjpaaGreatDoor.E

set_option linter.unusedVariables false
set_option linter.unusedSimpArgs false
namespace Go.Proofs.YtmjgehbpcchjpaaGreatDoor.E
end Go.Proofs.YtmjgehbpcchjpaaGreatDoor.E

set_option linter.unusedVariables false
set_option linter.unusedSimpArgs false
namespace Go.Proofs.YtmjgehbpcchjpaaGreatDoor.E
theorem pA (l : List Tr) : l.length ≤ eH l := by
 induction l with
 | nil => simp
 | cons a l ih => have := cntT_pos a; simp only [List.length_cons, eH]; omega
theorem oF {l : List Tr} {x : Tr} (h : x ∈ l) : cQ x ≤ eH l := by
 induction l with
 | nil => simp at h
 | cons a l ih =>
   simp only [eH]
   rcases List.mem_cons.1 h with rfl | h
   ·omega
   ·have := ih h; omega
end Go.Proofs.YtmjgehbpcchjpaaGreatDoor.E

namespace Go.Proofs.YtmjgehbpcchjpaaGreatDoor.E
set_option linter.unusedSimpArgs false
set_option linter.unusedVariables false
theorem pz (a b : Int) : dk b a = -dk a b := by unfold dk; split <;> split <;> omega
theorem o4 {a b c d : Int} (h : c = -a) (k : d = -b) : orI c d = -orI a b := by unfold orI; split <;> split <;> omega
theorem oZ {a b : Int} : orI a b < 0 ↔ a < 0 ∨ (a = 0 ∧ b < 0) := by unfold orI; split <;> omega
theorem cmpI_lt {a b : Int} : dk a b < 0 ↔ a < b := by unfold dk; split; omega; split <;> omega
theorem dp : ∀ (a b : Tr), bJ b a = -bJ a b := by
 intro a
 induction a using Tr.ind with
 | h k n l ih =>
   intro b
   cases b with
   | mk k' n' l' =>
     rw [fB, fB]
     have hl : cW l' l = -cW l l' := by
      clear k n k' n'
      induction l generalizing l' with
      | nil => cases l' <;> simp [cW]
      | cons a l ihl =>
        cases l' with
        | nil => simp [cW]
        | cons b l' =>
          rw [cW, cW]
          exact o4 (ih a (by simp) b) (ihl (fun x hx => ih x (by simp [hx])) l')
     exact o4 (pz k k') (o4 (pz n n') hl)
theorem dJ : ∀ {a b c : Tr}, bJ a b < 0 → bJ b c < 0 → bJ a c < 0 := by
 intro a
 induction a using Tr.ind with
 | h k n l ih =>
   intro b c
   cases b with
   | mk k' n' l' =>
     cases c with
     | mk k'' n'' l'' =>
       have hl : cW l l' < 0 → cW l' l'' < 0 → cW l l'' < 0 := by
        clear k n k' n' k'' n''
        induction l generalizing l' l'' with
        | nil => cases l' <;> cases l'' <;> simp [cW]
        | cons a l ihl =>
          cases l' with
          | nil => simp [cW]
          | cons b l' =>
            cases l'' with
            | nil => simp [cW]
            | cons c l'' =>
              rw [cW, cW, cW, oZ, oZ, oZ]
              rintro (h | ⟨h, h2⟩) (k | ⟨k, k2⟩)
              ·exact .inl (ih a (by simp) h k)
              ·rw [bP] at k; subst k; exact .inl h
              ·rw [bP] at h; subst h; exact .inl k
              ·rw [bP] at h k; subst h; subst k
               exact .inr ⟨(bP _ _).2 rfl, ihl (fun x hx => ih x (by simp [hx])) _ _ h2 k2⟩
       rw [fB, fB, fB]
       simp only [oZ, j7, cmpI_lt, kB]
       rintro (h | ⟨h, h2 | ⟨h2, h3⟩⟩) (k | ⟨k, k2 | ⟨k2, k3⟩⟩)
       all_goals first | (left; omega) | (right; exact ⟨by omega, .inl (by omega)⟩) | (right; exact ⟨by omega, .inr ⟨by omega, hl h3 k3⟩⟩)
instance : DecidableEq Tr := fun a b => decidable_of_iff (bJ a b = 0) (bP a b)
end Go.Proofs.YtmjgehbpcchjpaaGreatDoor.E
