import Derived.Test.YtmjgehbpcchjpaaGreatDoorIC
import Derived.Test.YtmjgehbpcchjpaaGreatDoorIA
import Derived.Test.YtmjgehbpcchjpaaGreatDoorIB
import Derived.Test.YtmjgehbpcchjpaaGreatDoorHW
namespace Go.Proofs.YtmjgehbpcchjpaaGreatDoor
open Go Go.Proofs Go.Proofs.YtmjgehbpcchjpaaGreatDoor.E
set_option linter.unusedSimpArgs false
set_option linter.unusedVariables false
theorem qk {l : List (List V)} (h : ∃ n, bZ Tryz.prog n T.masses [.dat l]) : ∃ ms : List Ms, l = ms.map msC ∧ ms.length ≤ maxLen ∧ ∀ m ∈ ms, m.Ok maxLen ∧ m.parts.length ≤ maxLen := by
 obtain ⟨n, h⟩ := h
 obtain ⟨l', e, hl, m, _, h⟩ := E.typed_sl (e := T.mass) (by kernel_rfl) h
 injection e with e _; injection e with e; subst e
 obtain ⟨ps, rfl, hp⟩ := E.list_of (f := msC) (p := fun m => m.Ok maxLen ∧ m.parts.length ≤ maxLen) fun x hx => by
  obtain ⟨m, e, h1, h2⟩ := oa (h x hx)
  exact ⟨m, e, h1, h2⟩
 exact ⟨ps, rfl, by simpa using hl, hp⟩
def qE (l : List Ms) : List Tr := (l.map fun m => m.parts.map Part.v).flatten
theorem ou : ∀ {l : List Ms} {b : Nat}, (∀ m ∈ l, m.parts.length ≤ b) → (qE l).length ≤ l.length * b
 | [], _, _ => by simp [qE]
 | a :: l, b, h => by
   have h1 := h a (by simp)
   have h2 := ou (l := l) (b := b) fun x hx => h x (by simp [hx])
   unfold qE at h2 ⊢
   rw [List.map_cons, List.flatten_cons, List.length_append, List.length_map, List.length_cons, Nat.succ_mul]; omega
theorem Sml.toBd {m : Ms} {K n W : Nat} {S : List Tr} (h : Sml m K n) (hK : 1 ≤ K) (hW : 1 + n * (K + 1) ≤ W) (hW2 : K ≤ W) (hv : ∀ p ∈ m.parts, p.v ∈ S) : Bd m K n W S := by
 have f : ∀ {x : Raw}, x.Ok K → Fits x.q W := fun hx => (Raw.fits hx hK).mono hW2
 refine ⟨h.ok, h.len, h.cnt, hv, fun v => ?_, f h.ok.rf, f h.ok.lo, f h.ok.f0, f h.ok.f1, f h.ok.f2⟩
 have l1 := Nat.mul_le_mul_right (K + 1) h.len
 exact (gj (k := K) hK (fun x hx => Raw.fits (h.ok.parts x hx).2 hK) v).mono (by omega)
theorem Sml.bd {m : Ms} {l : List Ms} (h : Sml m 6 40) (hm : m ∈ l) : Bd m 6 40 300 (qE l) :=
 h.toBd (by omega) (by omega) (by omega) fun p hp => List.mem_flatten.2 ⟨_, List.mem_map.2 ⟨m, hm, rfl⟩, List.mem_map.2 ⟨p, hp, rfl⟩⟩
theorem Bd.same {x y : Ms} {Kx nx Wx Ky ny Wy : Nat} {S R : List Tr} (h : Bd x Kx nx Wx S) (k : Bd y Ky ny Wy R) (K : Nat) (hK : 1 ≤ K) (hx : Kx ≤ K) (hy : Ky ≤ K) (hb : K ≤ 1000000) (hnx : nx ≤ 1000) (hny : ny ≤ 1000) (he : aI x = aI y) : CallD Tryz.prog F.mass_Same [.agg (msC x), .agg (msC y)] (· = .bool true) :=
 mass_Same hK hb (h.ok.mono hx) (k.ok.mono hy) (Nat.le_trans h.len hnx) (Nat.le_trans k.len hny) he
theorem Bd.mono {m : Ms} {K n W K' n' W' : Nat} {S : List Tr} (h : Bd m K n W S) (h1 : K ≤ K') (h2 : n ≤ n') (h3 : W ≤ W') : Bd m K' n' W' S :=
 ⟨h.ok.mono h1, Nat.le_trans h.len h2, h.cnt, h.vals, fun v => (h.w v).mono h3, h.rf.mono h3, h.lo.mono h3, h.f0.mono h3, h.f1.mono h3, h.f2.mono h3⟩
end Go.Proofs.YtmjgehbpcchjpaaGreatDoor
