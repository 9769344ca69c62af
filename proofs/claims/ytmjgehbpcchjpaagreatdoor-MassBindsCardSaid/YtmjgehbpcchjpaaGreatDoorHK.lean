import Derived.Test.YtmjgehbpcchjpaaGreatDoorHA
import Derived.Test.YtmjgehbpcchjpaaGreatDoorGE
import Derived.Test.YtmjgehbpcchjpaaGreatDoorGH
import Derived.Test.YtmjgehbpcchjpaaGreatDoorHJ
import Derived.Test.YtmjgehbpcchjpaaGreatDoorGO
import Derived.Test.YtmjgehbpcchjpaaGreatDoorGC
import Derived.Test.YtmjgehbpcchjpaaGreatDoorProg
import Derived.KernelRfl
import Derived.Test.YtmjgehbpcchjpaaGreatDoorGL
import Derived.Test.YtmjgehbpcchjpaaGreatDoorHI
namespace Go.Proofs.YtmjgehbpcchjpaaGreatDoor.F
open Go Go.Proofs Go.Proofs.YtmjgehbpcchjpaaGreatDoor.E Go.Proofs.YtmjgehbpcchjpaaGreatDoor.Q
abbrev slices_Clone_Part_Part : Nat := 164
def slices_Clone_Part_Part_c : MFn := ⟨8,(.seq (r [o 2 (.mv (.c .nils))] [0]) (.seq (.seq (r [o 3 (.mv (.t 0)),o 4 (.binS .eql (.t 3) (.c .nils))] [0,4]) (.cond (.t 4) (.seq (r [o 2 (.mv (.c .nils))] [2]) .ret) .skip)) (.seq (r [o 5 (.buildSl 6 0 zP []),o 6 (.mv (.t 0)),o 7 (.app 6 96 (.t 5) (.t 6)),o 2 (.mv (.t 7))] [2]) .ret))),[.t 2]⟩
theorem slices_Clone_Part_Part_ok : cFn Tryz.prog (kps [[0],[0,4],[2],[2]]) [] 164 = some slices_Clone_Part_Part_c := by kernel_rfl
abbrev value_Same : Nat := 140
def value_Same_c : MFn := ⟨9,(.seq (r [o 2 (.box (.t 0)),o 3 (.box (.t 1)),o 4 (.mv (.c (.bool false)))] [2,3]) (.seq (r [o 5 (.ld (some 3) (.t 2)),o 6 (.ld (some 3) (.t 3)),o 7 (.call 155 [(.t 5),(.t 6)]),o 8 (.bin .eql (.t 7) (i 0)),o 4 (.mv (.t 8))] [4]) .ret)),[.t 4]⟩
theorem value_Same_ok : cFn Tryz.prog (kps [[2,3],[4]]) [] 140 = some value_Same_c := by kernel_rfl
end Go.Proofs.YtmjgehbpcchjpaaGreatDoor.F

namespace Go.Proofs.YtmjgehbpcchjpaaGreatDoor
open Go Go.Proofs Go.Proofs.YtmjgehbpcchjpaaGreatDoor.E
set_option linter.unusedSimpArgs false
set_option linter.unusedVariables false
theorem rok {p : Raw} {j k : Nat} (h : p.Ok j) (hk : j ≤ k) : p.Ok k := ⟨h.dn, h.dd, Nat.le_trans h.ln hk, Nat.le_trans h.ld hk⟩
def mX : Nat → List (List V) → Option (List Int)
 | _, [] => some []
 | 0, _ => none
 | k + 1, [.int .u32 d] :: r => match decide (0 ≤ d ∧ d < 4294967296), mX k r with
   | true, some l => some (d :: l)
   | _, _ => none
 | _, _ => none
theorem mY : ∀ {k : Nat} {r : List (List V)} {l : List Int}, mX k r = some l → r = dg l ∧ Dig l ∧ l.length ≤ k
 | k, [], l, h => by cases k <;> (simp [mX] at h; subst h; exact ⟨rfl, by intro d hd; simp at hd, by simp⟩)
 | 0, a :: r, l, h => by simp [mX] at h
 | k + 1, a :: r, l, h => by
   unfold mX at h
   split at h
   ·simp at *
   ·simp at *
   ·rename_i k' d r' e1 e2
    injection e1 with e1; subst e1
    injection e2 with e2 e3; subst e2; subst e3
    split at h
    ·rename_i l' h1 h2
     injection h with h; subst h
     obtain ⟨a1, a2, a3⟩ := mY h2
     have hd : 0 ≤ d ∧ d < 4294967296 := of_decide_eq_true h1
     refine ⟨by rw [a1]; rfl, fun x hx => ?_, by simp; omega⟩
     rcases List.mem_cons.1 hx with rfl | hx
     ·exact hd
     ·exact a2 x hx
    ·simp at h
   ·simp at h
def j9 : V → Option Raw
 | .agg [.bool s, .dat n, .dat d] => match mX 100 n, mX 100 d with
   | some a, some b => some ⟨s, a, b⟩
   | _, _ => none
 | _ => none
theorem ft {v : V} {x : Raw} (h : j9 v = some x) : v = x.v ∧ x.Ok 100 := by
 unfold j9 at h
 split at h
 ·split at h
  ·rename_i a b h1 h2
   injection h with h; subst h
   obtain ⟨a1, a2, a3⟩ := mY h1
   obtain ⟨b1, b2, b3⟩ := mY h2
   exact ⟨by rw [a1, b1]; rfl, a2, b2, a3, b3⟩
  ·simp at h
 ·simp at h
def digK : Nat → Nat → Option (List Int)
 | k, n => match Nat.beq n 0 with
   | true => some []
   | false => match k with
     | 0 => none
     | k + 1 => match digK k (n / 4294967296) with
       | some l => some (((n % 4294967296 : Nat) : Int) :: l)
       | none => none
theorem oJ : ∀ {k n : Nat} {l : List Int}, digK k n = some l → l = aw (n : Int)
 | k, n, l, h => by
   unfold digK at h
   split at h
   ·rename_i e
    have e := Nat.eq_of_beq_eq_true e
    subst e
    injection h with h; subst h
    simp
   ·rename_i e
    have hn : n ≠ 0 := fun e0 => by subst e0; simp at e
    split at h
    ·simp at h
    ·split at h
     ·rename_i l' hl
      injection h with h; subst h
      have := oJ hl
      rw [b8 (by omega), this]
      simp
     ·simp at h
def ratK (r : Rat) : Option V := match digK 200 r.num.natAbs, digK 200 r.den with
 | some a, some b => some (.agg [.bool (decide (r < 0)), nat a, nat b])
 | _, _ => none
theorem o5 {r : Rat} {v : V} (h : ratK r = some v) : v = bb r := by
 unfold ratK at h
 split at h
 ·rename_i a b h1 h2
  injection h with h; subst h
  rw [oJ h1, oJ h2]
  rfl
 ·simp at h
def ratB (f : Nat) (ds : List V) : Option V :=
 match Nat.beq f F.ratio_Add with
 | true => match ds with
   | [u, v] => match j9 u, j9 v with
     | some x, some y => ratK (x.q + y.q)
     | _, _ => none
   | _ => none
 | false => match Nat.beq f F.ratio_Mul with
   | true => match ds with
     | [u, v] => match j9 u, j9 v with
       | some x, some y => ratK (x.q * y.q)
       | _, _ => none
     | _ => none
   | false => match Nat.beq f F.ratio_Compare with
     | true => match ds with
       | [u, v] => match j9 u, j9 v with
         | some x, some y => some (.int .i64 (gS x.q y.q))
         | _, _ => none
       | _ => none
     | false => match Nat.beq f F.ratio_made with
       | true => match ds with
         | [.bool s, .dat n, .dat d] => match j9 (.agg [.bool s, .dat n, .dat d]) with
           | some x => ratK x.q
           | none => none
         | _ => none
       | false => none
theorem ratB_ok : BOK Tryz.prog ratB := by
 intro f ds d h
 unfold ratB at h
 split at h
 ·rename_i e
  have e := Nat.eq_of_beq_eq_true e
  subst e
  split at h
  ·split at h
   ·rename_i x y h1 h2
    obtain ⟨rfl, ox⟩ := ft h1
    obtain ⟨rfl, oy⟩ := ft h2
    rw [o5 h]
    exact ratio_Add (rok ox (by omega)) (rok oy (by omega))
   ·simp at h
  ·simp at h
 split at h
 ·rename_i e
  have e := Nat.eq_of_beq_eq_true e
  subst e
  split at h
  ·split at h
   ·rename_i x y h1 h2
    obtain ⟨rfl, ox⟩ := ft h1
    obtain ⟨rfl, oy⟩ := ft h2
    rw [o5 h]
    exact ratio_Mul (rok ox (by omega)) (rok oy (by omega))
   ·simp at h
  ·simp at h
 split at h
 ·rename_i e
  have e := Nat.eq_of_beq_eq_true e
  subst e
  split at h
  ·split at h
   ·rename_i x y h1 h2
    obtain ⟨rfl, ox⟩ := ft h1
    obtain ⟨rfl, oy⟩ := ft h2
    injection h with h; subst h
    exact ratio_Compare (rok ox (by omega)) (rok oy (by omega))
   ·simp at h
  ·simp at h
 split at h
 ·rename_i e
  have e := Nat.eq_of_beq_eq_true e
  subst e
  split at h
  ·split at h
   ·rename_i s n d' x h1
    obtain ⟨h2, ox⟩ := ft h1
    rw [o5 h]
    unfold Raw.v at h2
    injection h2 with h2
    injection h2 with e1 h2
    injection h2 with e2 h2
    injection h2 with e3 _
    rw [e1, e2, e3]
    have := ratio_made (neg := x.neg) ox.dn ox.dd (Nat.le_trans ox.ln (by omega)) (Nat.le_trans ox.ld (by omega))
    unfold Raw.q
    exact this
   ·simp at h
  ·simp at h
 ·simp at h
theorem kU : CallD Tryz.prog F.slices_Clone_Part_Part [.dat []] (· = .dat []) := by
 refine CallD.empty1 ?_ ?_ <;> refine aB F.slices_Clone_Part_Part_ok ?_ <;> unfold F.slices_Clone_Part_Part_c <;> simp
 rfl
theorem qP {σ : Sto} {l : List Part} (h0 : l ≠ []) (hl : l.length ≤ 1000000) : CallX Tryz.prog F.slices_Clone_Part_Part [pl l] σ (fun v s => v = .ref (fresh σ) 0 l.length ∧ s = ag σ (fresh σ) (obL l)) := by
 have hn : l.length ≠ 0 := fun h => h0 (List.length_eq_zero_iff.1 h)
 have key : CallX Tryz.prog F.slices_Clone_Part_Part [pl l] [] (fun v s => ∃ o, v = bl o l.length ∧ s = cL o 6 l.length (l.map aA)) := by
  refine cF F.slices_Clone_Part_Part_ok ?_
  unfold F.slices_Clone_Part_Part_c
  cases l with
  | nil => exact (h0 rfl).elim
  | cons p l =>
    have hd : pl (p :: l) = .dat (aA p :: l.map aA) := rfl
    have hall : ((aA p :: l.map aA).all fun r => r.length == 6) = true := by simp
    simp at hl
    simp [hd, hall]
    repeat simp (disch := omega) [if_pos, ag, List.filter_cons]
    refine bQ (r := .ref 1 0 (l.length + 1)) (l := [.ref 1 0 (l.length + 1)]) (σ1 := [(1, ⟨.own, 6, aA p :: l.map aA⟩)]) (by simp) (by simp) rfl ?_ (by simp) ?_ (by simp [E.look]) ⟨1, by simp [bl], by simp [cL]⟩
    ·intro o x ho
     simp [E.look] at ho ⊢
     obtain ⟨rfl, rfl⟩ := ho
     simp
    ·intro o x ho hdd r hr y hy
     simp [E.look] at ho
     obtain ⟨_, rfl⟩ := ho
     simp at hr
     rcases hr with rfl | ⟨q, hq, rfl⟩
     ·exact bn _ _ hy _
     ·exact bn _ _ hy _
 have h2 := key.new (σ := σ) (vs := [pl l]) (fun r hr y hy => by obtain ⟨x, _, rfl⟩ := List.mem_map.1 hr; exact bn x y hy _) (by simp) (by simp [rchs, deep, rch])
 refine h2.mono ?_
 rintro r s ⟨rfl, rfl⟩
 exact ⟨ax hn, by rw [took, if_neg hn]⟩
@[simp] theorem toD_cmpC (σ : Sto) : toD σ 12 eb = some eb := (rfl)
theorem value_Same {p q : Tr} (hp : p.Ok) (hq : q.Ok) : CallD Tryz.prog F.value_Same [.agg p.cells, .agg q.cells] (· = .bool (decide (p = q))) := by
 refine aB F.value_Same_ok ?_
 unfold F.value_Same_c
 simp [ag, List.filter_cons]
 refine ai (value_Compare hp hq) (by simp [ba]) ?_
 simp [bP]
theorem sY : CallD Tryz.prog F.slices_SortStableFunc_Part_Part [.dat [], eb] (· = .tup []) := by
 have ins : CallD Tryz.prog F.slices_insertionSortCmpFunc_Part [.dat [], .int .i64 0, .int .i64 0, eb] (· = .tup []) := by
  refine aB F.slices_insertionSortCmpFunc_Part_ok ?_
  unfold F.slices_insertionSortCmpFunc_Part_c
  simp
  rw [ap (by omega) (by omega)]
  refine aH (fun g : Nat => (((((Sl.empty.set 8 (.int .i64 1)).set 3 eb).set 2 (.int .i64 0)).set 1 (.int .i64 0)).set 0 (.dat []), [])) (fun _ => True) (fun g => g) 0 trivial ?_ ?_
  ·exact bU (by repeat (first | exact af | refine aj (by simp) ?_)) (by repeat (first | exact ac | refine ah (by simp) ?_))
  rintro g -
  simp
 have st : CallD Tryz.prog F.slices_stableCmpFunc_Part [.dat [], .int .i64 0, eb] (· = .tup []) := by
  refine aB F.slices_stableCmpFunc_Part_ok ?_
  unfold F.slices_stableCmpFunc_Part_c
  simp
  refine aH (fun g : Nat => ((((((Sl.empty.set 8 (.int .i64 20)).set 7 (.int .i64 0)).set 6 (.int .i64 20)).set 2 eb).set 1 (.int .i64 0)).set 0 (.dat []), [])) (fun _ => True) (fun g => g) 0 trivial ?_ ?_
  ·exact bU (by repeat (first | exact af | refine aj (by simp) ?_)) (by repeat (first | exact ac | refine ah (by simp) ?_))
  rintro g -
  simp
  refine ai ins (by simp) ?_
  simp
  refine aH (fun g : Nat => ((((Sl.empty.set 6 (.int .i64 20)).set 2 eb).set 1 (.int .i64 0)).set 0 (.dat []), [])) (fun _ => True) (fun g => g) 0 trivial ?_ ?_
  ·exact bU (by repeat (first | exact af | refine aj (by simp) ?_)) (by repeat (first | exact ac | refine ah (by simp) ?_))
  rintro g -
  simp
 refine aB F.slices_SortStableFunc_Part_Part_ok ?_
 unfold F.slices_SortStableFunc_Part_Part_c
 simp
 refine ai st (by simp) ?_
 simp
end Go.Proofs.YtmjgehbpcchjpaaGreatDoor
