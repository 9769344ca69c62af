import Derived.Test.YtmjgehbpcchjpaaGreatDoorHW
import Derived.Test.YtmjgehbpcchjpaaGreatDoorHU
import Derived.Test.YtmjgehbpcchjpaaGreatDoorHV
namespace Go.Proofs.YtmjgehbpcchjpaaGreatDoor
open Go Go.Proofs Go.Proofs.YtmjgehbpcchjpaaGreatDoor.E
set_option linter.unusedSimpArgs false
set_option linter.unusedVariables false
structure Sml (m : Ms) (K n : Nat) : Prop where
 ok : m.Ok K
 len : m.parts.length ≤ n
 cnt : ∀ p ∈ m.parts, cQ p.v ≤ 1000000
theorem Sml.mono {m : Ms} {K n K' n' : Nat} (h : Sml m K n) (h1 : K ≤ K') (h2 : n ≤ n') : Sml m K' n' := ⟨h.ok.mono h1, Nat.le_trans h.len h2, h.cnt⟩
theorem Sml.norm {m : Ms} {K n : Nat} (h : Sml m K n) (hK : 1 ≤ K) : Sml (aI m) (1 + n * (K + 1) + K) n := by
 have := Nat.mul_le_mul_right (K + 1) h.len
 exact ⟨j5 hK h.ok (by omega) (by omega), Nat.le_trans (dS m) h.len, iI h.cnt⟩
theorem Sml.add {x y : Ms} {K a b : Nat} (h : Sml x K a) (k : Sml y K b) (hK : 1 ≤ K) (hb : K ≤ 100000) (ha : a ≤ 400) (hb' : b ≤ 400) : CallD Tryz.prog F.mass_Add [.agg (msC x), .agg (msC y)] (· = .agg (msC (aI (fm x y)))) ∧ Sml (aI (fm x y)) (1 + (a + b) * (2 * K + 1 + 1) + (2 * K + 1)) (a + b) :=
 have s : Sml (fm x y) (2 * K + 1) (a + b) := ⟨lP hK h.ok k.ok, by rw [jC]; have := h.len; have := k.len; omega, ml h.cnt k.cnt⟩
 ⟨mass_Add hK hb h.ok k.ok (Nat.le_trans h.len ha) (Nat.le_trans k.len hb') h.cnt k.cnt, s.norm (by omega)⟩
theorem Sml.same {x y : Ms} {K a b : Nat} (h : Sml x K a) (k : Sml y K b) (hK : 1 ≤ K) (hb : K ≤ 1000000) (ha : a ≤ 1000) (hb' : b ≤ 1000) (he : aI x = aI y) : CallD Tryz.prog F.mass_Same [.agg (msC x), .agg (msC y)] (· = .bool true) :=
 mass_Same hK hb h.ok k.ok (Nat.le_trans h.len ha) (Nat.le_trans k.len hb') he
theorem rH {m : Ms} (hm : m.Ok maxLen) (h : iR m = true) : Sml m 6 40 := by
 obtain ⟨h1, h2, h3⟩ := few_ok hm h
 exact ⟨h1, h2, fun p hp => by have := h3 p hp; omega⟩
end Go.Proofs.YtmjgehbpcchjpaaGreatDoor
