import Derived.Test.YtmjgehbpcchjpaaGreatDoorGX
import Derived.Test.YtmjgehbpcchjpaaGreatDoorHR
namespace Go.Proofs.YtmjgehbpcchjpaaGreatDoor.F
open Go Go.Proofs Go.Proofs.YtmjgehbpcchjpaaGreatDoor.E Go.Proofs.YtmjgehbpcchjpaaGreatDoor.Q
abbrev weights_Add : Nat := 80
def weights_Add_c : MFn := ⟨42,(.seq (r [o 2 (.box (.t 0)),o 3 (.box (.t 1)),o 4 (.alloc zM)] [2,3,4]) (.seq (r [o 7 (.fA 0 (.t 2)),o 8 (.ld none (.t 7)),o 9 (.fA 0 (.t 3)),o 10 (.ld none (.t 9)),o 13 (.fA 1 (.t 2)),o 14 (.ld (some 3) (.t 13)),o 15 (.fA 1 (.t 3)),o 16 (.ld (some 3) (.t 15)),o 18 (.fA 4 (.t 2)),o 19 (.ld (some 3) (.t 18)),o 20 (.fA 4 (.t 3)),o 21 (.ld (some 3) (.t 20)),o 11 (.buildSl 1 2 [.nils] [(0,(.t 8)),(1,(.t 10))]),o 12 (.callF 132 [(.t 11)]),o 17 (.callF 40 [(.t 14),(.t 16)]),o 22 (.callF 40 [(.t 19),(.t 21)]),o 23 (.build zM [(0,1,(.t 12)),(1,3,(.t 17)),(4,3,(.t 22))]),o 5 (.alloc zM),z (.st 16 (.t 5) (.t 23))] [2,3,4,5]) (.seq (.seq (r [o 24 (.mv (i 0))] [2,3,4,5,24]) (.block 0 (.loop (.seq (r [o 25 (.bin .lss (.t 24) (i 3))] [2,3,4,5,24,25]) (.seq (.cond (.t 25) .skip (.exit 0)) (.seq (.block 1 (.seq (r [o 26 (.mv (.t 24)),o 6 (.mv (.t 26))] [2,3,4,5,6,24]) (r [o 27 (.mv (.t 6)),o 28 (.mv (.t 6)),o 29 (.fA 7 (.t 2)),o 30 (.ixArr 3 3 (.t 29) (.t 28)),o 31 (.ld (some 3) (.t 30)),o 32 (.mv (.t 6)),o 33 (.fA 7 (.t 3)),o 34 (.ixArr 3 3 (.t 33) (.t 32)),o 35 (.ld (some 3) (.t 34)),o 36 (.callF 40 [(.t 31),(.t 35)]),o 37 (.fA 7 (.t 5)),o 38 (.ixArr 3 3 (.t 37) (.t 27)),z (.st 3 (.t 38) (.t 36))] [2,3,4,5,24]))) (r [o 39 (.bin .add (.t 24) (i 1)),o 24 (.mv (.t 39))] [2,3,4,5,24]))))))) (.seq (r [o 40 (.ld (some 16) (.t 5)),o 41 (.call 128 [(.t 40)]),z (.st 16 (.t 4) (.t 41))] [4]) .ret)))),[.cell 4 (some 16)]⟩
theorem weights_Add_ok : cFn Tryz.prog (kps [[2,3,4],[2,3,4,5],[2,3,4,5,24],[2,3,4,5,24,25],[2,3,4,5,6,24],[2,3,4,5,24],[2,3,4,5,24],[4]]) [] 80 = some weights_Add_c := by kernel_rfl
abbrev mass_Add : Nat := 20
def mass_Add_c : MFn := ⟨9,(.seq (r [o 2 (.box (.t 0)),o 3 (.box (.t 1)),o 4 (.alloc zM)] [2,3,4]) (.seq (r [o 5 (.ld (some 16) (.t 2)),o 6 (.ld (some 16) (.t 3)),o 7 (.call 80 [(.t 5),(.t 6)]),o 8 (.call 78 [(.t 7)]),z (.st 16 (.t 4) (.t 8))] [4]) .ret)),[.cell 4 (some 16)]⟩
theorem mass_Add_ok : cFn Tryz.prog (kps [[2,3,4],[4]]) [] 20 = some mass_Add_c := by kernel_rfl
end Go.Proofs.YtmjgehbpcchjpaaGreatDoor.F

namespace Go.Proofs.YtmjgehbpcchjpaaGreatDoor
open Go Go.Proofs Go.Proofs.YtmjgehbpcchjpaaGreatDoor.E
set_option linter.unusedSimpArgs false
set_option linter.unusedVariables false
theorem o9 : CallX Tryz.prog F.slices_Grow_Part_Part [.nils, .int .i64 0] [] (fun v s => v = .nils ∧ s = []) := by
 refine cF F.slices_Grow_Part_Part_ok ?_
 unfold F.slices_Grow_Part_Part_c
 have w0 : IntKind.i64.wrap 0 = 0 := ap (by omega) (by omega)
 simp [w0]
 exact bQ (r := .nils) (l := [.nils]) (σ1 := []) (by simp) (by simp) rfl (Has.refl _) (by simp) shut_nil (by simp) ⟨rfl, rfl⟩
theorem m8 : CallD Tryz.prog F.slices_Concat_Part_Part [.dat [[pl []], [pl []]]] (· = pl []) := by
 refine aB F.slices_Concat_Part_Part_ok ?_
 unfold F.slices_Concat_Part_Part_c
 have w0 : IntKind.i64.wrap 0 = 0 := ap (by omega) (by omega)
 have w1 : IntKind.i64.wrap 1 = 1 := ap (by omega) (by omega)
 have w2 : IntKind.i64.wrap 2 = 2 := ap (by omega) (by omega)
 simp
 refine aH (fun g : Nat => (((((Sl.empty.set 11 (.int .i64 g)).set 10 (.int .i64 2)).set 9 (.dat [[pl []], [pl []]])).set 3 (.int .i64 0)).set 0 (.dat [[pl []], [pl []]]), [])) (fun g => g ≤ 2) (fun g => 2 - g) 0 (by omega) ?_ ?_
 ·exact bU (by repeat (first | exact af | refine aj (by simp) ?_)) (by repeat (first | exact ac | refine ah (by simp) ?_))
 intro g hg
 rcases (show g = 0 ∨ g = 1 ∨ g = 2 by omega) with rfl | rfl | rfl
 ·simp [w0, w1]
  refine ⟨1, by omega, by dsimp only; omega, ?_⟩
  exact bU (by repeat (first | exact af | refine aj (by simp) ?_)) (by repeat (first | exact ac | refine ah (by simp) ?_))
 ·simp [w0, w2]
  refine ⟨2, by omega, by dsimp only; omega, ?_⟩
  exact bU (by repeat (first | exact af | refine aj (by simp) ?_)) (by repeat (first | exact ac | refine ah (by simp) ?_))
 simp
 refine cB o9 ?_
 rintro r s ⟨rfl, rfl⟩
 simp
 refine aH (fun g : Nat => ((((Sl.empty.set 27 (.int .i64 g)).set 26 (.int .i64 2)).set 25 (.dat [[pl []], [pl []]])).set 6 .nils, [])) (fun g => g ≤ 2) (fun g => 2 - g) 0 (by simp) ?_ ?_
 ·exact bU (by repeat (first | exact af | refine aj (by simp) ?_)) (by repeat (first | exact ac | refine ah (by simp) ?_))
 intro g hg
 rcases (show g = 0 ∨ g = 1 ∨ g = 2 by omega) with rfl | rfl | rfl
 ·simp [w0, w1]
  refine ⟨1, by omega, by dsimp only; omega, ?_⟩
  exact bU (by repeat (first | exact af | refine aj (by simp) ?_)) (by repeat (first | exact ac | refine ah (by simp) ?_))
 ·simp [w0, w2]
  refine ⟨2, by omega, by dsimp only; omega, ?_⟩
  exact bU (by repeat (first | exact af | refine aj (by simp) ?_)) (by repeat (first | exact ac | refine ah (by simp) ?_))
 simp
theorem m9 {b : List Part} (hb : b ≠ []) (lb : b.length ≤ 400) : CallD Tryz.prog F.slices_Concat_Part_Part [.dat [[pl []], [pl b]]] (· = pl b) := by
 have b0 : 0 < b.length := List.length_pos_iff.2 hb
 refine aB F.slices_Concat_Part_Part_ok ?_
 unfold F.slices_Concat_Part_Part_c
 have w0 : IntKind.i64.wrap 0 = 0 := ap (by omega) (by omega)
 have w1 : IntKind.i64.wrap 1 = 1 := ap (by omega) (by omega)
 have w2 : IntKind.i64.wrap 2 = 2 := ap (by omega) (by omega)
 have wb : IntKind.i64.wrap (b.length : Int) = b.length := ap (by omega) (by omega)
 simp
 refine aH (fun g : Nat => (((((Sl.empty.set 11 (.int .i64 g)).set 10 (.int .i64 2)).set 9 (.dat [[pl []], [pl b]])).set 3 (.int .i64 (if g ≤ 1 then 0 else (b.length : Int)))).set 0 (.dat [[pl []], [pl b]]), [])) (fun g => g ≤ 2) (fun g => 2 - g) 0 (by omega) ?_ ?_
 ·exact bU (by repeat (first | exact af | refine aj (by simp) ?_)) (by repeat (first | exact ac | refine ah (by simp) ?_))
 intro g hg
 have e1 : ¬ (b.length : Int) < 0 := by omega
 rcases (show g = 0 ∨ g = 1 ∨ g = 2 by omega) with rfl | rfl | rfl
 ·simp [w0, w1]
  refine ⟨1, by omega, by dsimp only; omega, ?_⟩
  exact bU (by repeat (first | exact af | refine aj (by simp) ?_)) (by repeat (first | exact ac | refine ah (by simp) ?_))
 ·simp [w0, w2, wb, e1]
  refine ⟨2, by omega, by dsimp only; omega, ?_⟩
  exact bU (by repeat (first | exact af | refine aj (by simp) ?_)) (by repeat (first | exact ac | refine ah (by simp) ?_))
 simp
 refine cB (gL (n := b.length) (by omega) (by omega)) ?_
 rintro r s ⟨q, rfl, rfl⟩
 simp
 have hw : ∀ l : List Part, dV (l.map aA) := fun l r hr y hy p => by
  obtain ⟨x, _, rfl⟩ := List.mem_map.1 hr
  exact bn x y hy p
 refine aH (fun g : Nat × Nat => ((((Sl.empty.set 27 (.int .i64 g.2)).set 26 (.int .i64 2)).set 25 (.dat [[pl []], [pl b]])).set 6 (.ref g.1 0 (if g.2 ≤ 1 then 0 else b.length)),
  [(g.1, ⟨.own, 6, if g.2 ≤ 1 then List.replicate b.length nt else b.map aA⟩)]))
  (fun g => g.2 ≤ 2) (fun g => 2 - g.2) (q, 0) (by simp) ?_ ?_
 ·refine aJ ?_ (by simp) (by repeat (first | exact ac | refine ah (by simp) ?_)) (fun p hp r hr y hy => ?_)
  ·repeat (first | exact af | refine aj (by simp) ?_)
  ·simp at hp; subst hp
   have := (List.mem_replicate.1 hr).2; subst this
   exact eM y hy _
 rintro ⟨q, g⟩ hg
 dsimp only at hg
 rcases (show g = 0 ∨ g = 1 ∨ g = 2 by omega) with rfl | rfl | rfl
 ·simp [w0, w1]
  refine ⟨(q, 1), by simp, by dsimp only; omega, ?_⟩
  refine aJ ?_ (by simp) (by repeat (first | exact ac | refine ah (by simp) ?_)) (fun p hp r hr y hy => ?_)
  ·repeat (first | exact af | refine aj (by simp) ?_)
  ·simp at hp; subst hp
   have := (List.mem_replicate.1 hr).2; subst this
   exact eM y hy _
 ·obtain ⟨p, b', rfl⟩ := List.exists_cons_of_ne_nil hb
  have hall : ∀ l : List Part, ((l.map aA).all fun r => r.length == 6) = true := fun l => by simp
  simp at lb
  simp
  rw [if_pos (by omega)]
  simp
  rw [ap (by omega) (by omega)]
  refine ⟨(q + 1, 2), by simp, by dsimp only; omega, ?_⟩
  refine aJ ?_ (by simp) (by repeat (first | exact ac | refine ah (by simp) ?_)) (fun x hx r hr y hy => ?_)
  ·repeat (first | exact af | refine aj (by simp) ?_)
  ·simp at hx; subst hx
   exact hw (p :: b') r (by simpa using hr) y hy _
 ·simp
  rw [E.toD_ref (k := 11) (st := .own) (es := 6) (l := b.map aA) (by simp [E.look]) (by simp) (by simp) (by simp) (by omega) (fun r hr => by
   obtain ⟨x, _, rfl⟩ := List.mem_map.1 hr; exact bG _ _ _)]
theorem m7 {b : List Part} (hb : b ≠ []) (lb : b.length ≤ 400) : CallD Tryz.prog F.slices_Concat_Part_Part [.dat [[pl b], [pl []]]] (· = pl b) := by
 have b0 : 0 < b.length := List.length_pos_iff.2 hb
 refine aB F.slices_Concat_Part_Part_ok ?_
 unfold F.slices_Concat_Part_Part_c
 have w0 : IntKind.i64.wrap 0 = 0 := ap (by omega) (by omega)
 have w1 : IntKind.i64.wrap 1 = 1 := ap (by omega) (by omega)
 have w2 : IntKind.i64.wrap 2 = 2 := ap (by omega) (by omega)
 have wb : IntKind.i64.wrap (b.length : Int) = b.length := ap (by omega) (by omega)
 simp
 refine aH (fun g : Nat => (((((Sl.empty.set 11 (.int .i64 g)).set 10 (.int .i64 2)).set 9 (.dat [[pl b], [pl []]])).set 3 (.int .i64 (if g = 0 then 0 else (b.length : Int)))).set 0 (.dat [[pl b], [pl []]]), [])) (fun g => g ≤ 2) (fun g => 2 - g) 0 (by omega) ?_ ?_
 ·exact bU (by repeat (first | exact af | refine aj (by simp) ?_)) (by repeat (first | exact ac | refine ah (by simp) ?_))
 intro g hg
 have e1 : ¬ (b.length : Int) < 0 := by omega
 rcases (show g = 0 ∨ g = 1 ∨ g = 2 by omega) with rfl | rfl | rfl
 ·simp [w0, w1, wb, e1]
  refine ⟨1, by omega, by dsimp only; omega, ?_⟩
  exact bU (by repeat (first | exact af | refine aj (by simp) ?_)) (by repeat (first | exact ac | refine ah (by simp) ?_))
 ·simp [w0, w2, wb, e1]
  refine ⟨2, by omega, by dsimp only; omega, ?_⟩
  exact bU (by repeat (first | exact af | refine aj (by simp) ?_)) (by repeat (first | exact ac | refine ah (by simp) ?_))
 simp
 refine cB (gL (n := b.length) (by omega) (by omega)) ?_
 rintro r s ⟨q, rfl, rfl⟩
 simp
 have hw : ∀ l : List Part, dV (l.map aA) := fun l r hr y hy p => by
  obtain ⟨x, _, rfl⟩ := List.mem_map.1 hr
  exact bn x y hy p
 refine aH (fun g : Nat × Nat => ((((Sl.empty.set 27 (.int .i64 g.2)).set 26 (.int .i64 2)).set 25 (.dat [[pl b], [pl []]])).set 6 (.ref g.1 0 (if g.2 = 0 then 0 else b.length)),
  [(g.1, ⟨.own, 6, if g.2 = 0 then List.replicate b.length nt else b.map aA⟩)]))
  (fun g => g.2 ≤ 2) (fun g => 2 - g.2) (q, 0) (by simp) ?_ ?_
 ·refine aJ ?_ (by simp) (by repeat (first | exact ac | refine ah (by simp) ?_)) (fun p hp r hr y hy => ?_)
  ·repeat (first | exact af | refine aj (by simp) ?_)
  ·simp at hp; subst hp
   have := (List.mem_replicate.1 hr).2; subst this
   exact eM y hy _
 rintro ⟨q, g⟩ hg
 dsimp only at hg
 rcases (show g = 0 ∨ g = 1 ∨ g = 2 by omega) with rfl | rfl | rfl
 ·obtain ⟨p, b', rfl⟩ := List.exists_cons_of_ne_nil hb
  have hall : ∀ l : List Part, ((l.map aA).all fun r => r.length == 6) = true := fun l => by simp
  simp at lb
  simp
  rw [if_pos (by omega)]
  simp
  rw [ap (by omega) (by omega)]
  refine ⟨(q + 1, 1), by simp, by dsimp only; omega, ?_⟩
  refine aJ ?_ (by simp) (by repeat (first | exact ac | refine ah (by simp) ?_)) (fun x hx r hr y hy => ?_)
  ·repeat (first | exact af | refine aj (by simp) ?_)
  ·simp at hx; subst hx
   exact hw (p :: b') r (by simpa using hr) y hy _
 ·simp [w0, w2]
  refine ⟨(q, 2), by simp, by dsimp only; omega, ?_⟩
  refine aJ ?_ (by simp) (by repeat (first | exact ac | refine ah (by simp) ?_)) (fun p hp r hr y hy => ?_)
  ·repeat (first | exact af | refine aj (by simp) ?_)
  ·simp at hp; subst hp
   exact hw b r (by simpa using hr) y hy _
 ·simp
  rw [E.toD_ref (k := 11) (st := .own) (es := 6) (l := b.map aA) (by simp [E.look]) (by simp) (by simp) (by simp) (by omega) (fun r hr => by
   obtain ⟨x, _, rfl⟩ := List.mem_map.1 hr; exact bG _ _ _)]
theorem m6 {a b : List Part} (la : a.length ≤ 400) (lb : b.length ≤ 400) : CallD Tryz.prog F.slices_Concat_Part_Part [.dat [[pl a], [pl b]]] (· = pl (a ++ b)) := by
 by_cases ha : a = []
 ·subst ha
  by_cases hb : b = []
  ·subst hb; exact m8
  ·exact m9 hb lb
 ·by_cases hb : b = []
  ·subst hb; rw [List.append_nil]; exact m7 ha la
  ·exact nE ha hb la lb
def fm (m n : Ms) : Ms := ⟨m.parts ++ n.parts, ao (m.rf.q + n.rf.q), ao (m.lo.q + n.lo.q), ao (m.f0.q + n.f0.q), ao (m.f1.q + n.f1.q), ao (m.f2.q + n.f2.q)⟩
theorem lP {m n : Ms} {K : Nat} (hK : 1 ≤ K) (hm : m.Ok K) (hn : n.Ok K) : (fm m n).Ok (2 * K + 1) := by
 have g : ∀ {x y : Raw}, x.Ok K → y.Ok K → (ao (x.q + y.q)).Ok (2 * K + 1) := fun hx hy => bw ((mH (Raw.fits hx hK) (Raw.fits hy hK)).mono (by omega))
 refine ⟨fun p hp => ?_, g hm.rf hn.rf, g hm.lo hn.lo, g hm.f0 hn.f0, g hm.f1 hn.f1, g hm.f2 hn.f2⟩
 rcases List.mem_append.1 hp with hp | hp
 ·exact ⟨(hm.parts p hp).1, rok (hm.parts p hp).2 (by omega)⟩
 ·exact ⟨(hn.parts p hp).1, rok (hn.parts p hp).2 (by omega)⟩
theorem jC (m n : Ms) : (fm m n).parts.length = m.parts.length + n.parts.length := by simp [fm]
theorem ml {m n : Ms} {B : Nat} (h : ∀ p ∈ m.parts, cQ p.v ≤ B) (k : ∀ p ∈ n.parts, cQ p.v ≤ B) : ∀ p ∈ (fm m n).parts, cQ p.v ≤ B := fun p hp => by
 rcases List.mem_append.1 hp with hp | hp
 ·exact h p hp
 ·exact k p hp
set_option maxHeartbeats 16000000 in
theorem weights_Add {m n : Ms} {K : Nat} (hK : 1 ≤ K) (hb : K ≤ 100000) (hm : m.Ok K) (hn : n.Ok K) (lm : m.parts.length ≤ 400) (ln : n.parts.length ≤ 400) : CallD Tryz.prog F.weights_Add [m.v, n.v] (· = (aI (fm m n)).v) := by
 have K31 : K ≤ 2 ^ 31 := by omega
 have lA := jC m n
 have p1 : (fm m n).parts.length * (2 * K + 1 + 1) ≤ 800 * 200002 := Nat.mul_le_mul (by omega) (by omega)
 have come := dj (K := 2 * K + 1) (by omega) (by omega) (lP hK hm hn) (by omega) (by omega)
 refine aB F.weights_Add_ok ?_
 unfold F.weights_Add_c
 simp [ag, List.filter_cons, msC, am]
 refine ak (m6 lm ln) (by
  simp
  rw [kn (es := 1) (st := .own) (l := [[pl m.parts], [pl n.parts]]) (by simp [aM, E.look]) (by simp) (by simp) (by simp)]) ?_
 have h4 : ∀ σ : Sto, aM σ 3 = some ⟨.own, 1, [[pl m.parts], [pl n.parts]]⟩ → rch σ 12 (.ref 3 0 2) = [3] := fun σ h => fi h rfl (by simp)
 simp [h4, aM, rchs, E.deep, E.look, frz, ag, List.filter_cons]
 refine ak (ratio_Add (rok hm.rf K31) (rok hn.rf K31)) (by simp [Raw.v]) ?_
 simp [bb, Raw.v]
 refine ak (ratio_Add (rok hm.lo K31) (rok hn.lo K31)) (by simp [Raw.v]) ?_
 simp [bb, Raw.v, ag, List.filter_cons]
 let A := ao (m.rf.q + n.rf.q)
 let B := ao (m.lo.q + n.lo.q)
 let C := ao (m.f0.q + n.f0.q)
 let D := ao (m.f1.q + n.f1.q)
 let G := ao (m.f2.q + n.f2.q)
 have inS : ∀ g, ∀ p ∈ ([(0, ⟨.own, 16, [msC m]⟩), (1, ⟨.own, 16, [msC n]⟩), (2, ⟨.own, 16, [az]⟩), (4, ⟨.own, 16, [pl (m.parts ++ n.parts) :: aQ A B C D G g]⟩)] : Sto), ∀ r ∈ p.2.cells, ∀ y ∈ r, ∀ f : Nat → Bool, y.within f = true := fun g p hp r hr y hy f => by
  simp only [List.mem_cons, List.not_mem_nil, or_false] at hp
  rcases hp with rfl | rfl | rfl | rfl
  ·simp only [List.mem_singleton] at hr; subst hr; exact bS m y hy f
  ·simp only [List.mem_singleton] at hr; subst hr; exact bS n y hy f
  ·simp only [List.mem_singleton] at hr; subst hr; exact bC y hy f
  ·simp only [List.mem_singleton] at hr; subst hr
   rcases List.mem_cons.1 hy with rfl | hy
   ·simp [V.within]
   ·exact cH A B C D G g y (List.mem_cons_of_mem _ hy) f
 refine aH (fun g : Nat => (((((Sl.empty.set 24 (.int .i64 g)).set 5 (.ptr 4 0 0)).set 4 (.ptr 2 0 0)).set 3 (.ptr 1 0 0)).set 2 (.ptr 0 0 0),
  [(0, ⟨.own, 16, [msC m]⟩), (1, ⟨.own, 16, [msC n]⟩), (2, ⟨.own, 16, [az]⟩), (4, ⟨.own, 16, [pl (m.parts ++ n.parts) :: aQ A B C D G g]⟩)]))
  (fun g => g ≤ 3) (fun g => 3 - g) 0 (by omega) ?_ ?_
 ·refine aJ ?_ (by simp [aQ, am, msC, az, A, B, C, D, G]) (by repeat (first | exact ac | refine ah (by simp) ?_)) (fun p hp r hr y hy => inS 0 p hp r hr y hy _)
  repeat (first | exact af | refine aj (by simp) ?_)
 intro g hg
 by_cases c : g < 3
 ·have hg3 : g = 0 ∨ g = 1 ∨ g = 2 := by omega
  rcases hg3 with e | e | e
  ·subst e
   simp [aQ, am, msC, az, ag, List.filter_cons]
   refine ak (ratio_Add (rok hm.f0 K31) (rok hn.f0 K31)) (by simp [Raw.v]) ?_
   simp [bb, Raw.v, ag, List.filter_cons]
   rw [ap (by omega) (by omega)]
   refine ⟨1, by omega, by dsimp only; omega, ?_⟩
   refine aJ ?_ (by simp [aQ, am, msC, az, A, B, C, D, G]) (by repeat (first | exact ac | refine ah (by simp) ?_)) (fun p hp r hr y hy => inS 1 p hp r hr y hy _)
   repeat (first | exact af | refine aj (by simp) ?_)
  ·subst e
   simp [aQ, am, msC, az, ag, List.filter_cons]
   refine ak (ratio_Add (rok hm.f1 K31) (rok hn.f1 K31)) (by simp [Raw.v]) ?_
   simp [bb, Raw.v, ag, List.filter_cons]
   rw [ap (by omega) (by omega)]
   refine ⟨2, by omega, by dsimp only; omega, ?_⟩
   refine aJ ?_ (by simp [aQ, am, msC, az, A, B, C, D, G]) (by repeat (first | exact ac | refine ah (by simp) ?_)) (fun p hp r hr y hy => inS 2 p hp r hr y hy _)
   repeat (first | exact af | refine aj (by simp) ?_)
  ·subst e
   simp [aQ, am, msC, az, ag, List.filter_cons]
   refine ak (ratio_Add (rok hm.f2 K31) (rok hn.f2 K31)) (by simp [Raw.v]) ?_
   simp [bb, Raw.v, ag, List.filter_cons]
   rw [ap (by omega) (by omega)]
   refine ⟨3, by omega, by dsimp only; omega, ?_⟩
   refine aJ ?_ (by simp [aQ, am, msC, az, A, B, C, D, G]) (by repeat (first | exact ac | refine ah (by simp) ?_)) (fun p hp r hr y hy => inS 3 p hp r hr y hy _)
   repeat (first | exact af | refine aj (by simp) ?_)
 ·have e : g = 3 := by omega
  subst e
  simp [aQ, am, msC, az, ag, List.filter_cons]
  refine ai come (by simp [fm, am, msC, A, B, C, D, G]) ?_
  simp [aI, am, msC, ag, List.filter_cons]
theorem mass_Add {m n : Ms} {K : Nat} (hK : 1 ≤ K) (hb : K ≤ 100000) (hm : m.Ok K) (hn : n.Ok K) (lm : m.parts.length ≤ 400) (ln : n.parts.length ≤ 400) (cm : ∀ p ∈ m.parts, cQ p.v ≤ 1000000) (cn : ∀ p ∈ n.parts, cQ p.v ≤ 1000000) : CallD Tryz.prog F.mass_Add [m.v, n.v] (· = (aI (fm m n)).v) := by
 have lA := jC m n
 have lN := dS (fm m n)
 have p1 : (fm m n).parts.length * (2 * K + 1 + 1) ≤ 800 * 200002 := Nat.mul_le_mul (by omega) (by omega)
 refine aB F.mass_Add_ok ?_
 unfold F.mass_Add_c
 simp [ag, List.filter_cons, msC, am]
 refine ai (weights_Add hK hb hm hn lm ln) (by simp [msC, am]) ?_
 simp [msC, am]
 refine ai (own_Mass (m := aI (fm m n)) (K := 2 ^ 30) (by omega) (j5 (K := 2 * K + 1) (by omega) (lP hK hm hn) (by omega) (by omega)) (by omega) (iI (ml cm cn))) (by simp [msC, am]) ?_
 simp [ag, List.filter_cons, msC, am]
end Go.Proofs.YtmjgehbpcchjpaaGreatDoor
