import Derived.Test.YtmjgehbpcchjpaaGreatDoorHP
import Derived.Test.YtmjgehbpcchjpaaGreatDoorGQ
import Derived.Test.YtmjgehbpcchjpaaGreatDoorHQ
import Derived.Test.YtmjgehbpcchjpaaGreatDoorGC
import Derived.Test.YtmjgehbpcchjpaaGreatDoorProg
import Derived.KernelRfl
namespace Go.Proofs.YtmjgehbpcchjpaaGreatDoor
open Go Go.Proofs Go.Proofs.YtmjgehbpcchjpaaGreatDoor.E
set_option linter.unusedSimpArgs false
set_option linter.unusedVariables false
theorem ri {n : Nat} {vs : List V} (h : bZ Tryz.prog n T.parts vs) : ∃ ps : List Part, vs = [pl ps] ∧ ps.length ≤ maxLen ∧ ∀ p ∈ ps, p.Ok maxLen := by
 have h0 := h
 obtain ⟨l, rfl, _⟩ := E.typed_sl (e := T.part) (by kernel_rfl) h
 obtain ⟨ps, rfl, h1, h2⟩ := rj ⟨n, h0⟩
 exact ⟨ps, rfl, h1, h2⟩
theorem oa {n : Nat} {l : List V} (h : bZ Tryz.prog n T.mass l) : ∃ m : Ms, l = msC m ∧ m.Ok maxLen ∧ m.parts.length ≤ maxLen := by
 obtain ⟨_, _, h⟩ := E.typed_st (l := [T.parts, T.ratio, T.ratio, T.rat3]) (by kernel_rfl) h
 obtain ⟨a, y, rfl, ha, h⟩ := E.all_cons h
 obtain ⟨b, z, rfl, hb, h⟩ := E.all_cons h
 obtain ⟨c, w, rfl, hc, h⟩ := E.all_cons h
 obtain ⟨d, u, rfl, hd, h⟩ := E.all_cons h
 have := E.all_nil h
 subst this
 obtain ⟨_, _, hd⟩ := E.typed_ar (m := 3) (e := T.ratio) (by kernel_rfl) hd
 obtain ⟨f0, y0, rfl, hf0, hd⟩ := E.all_cons hd
 obtain ⟨f1, y1, rfl, hf1, hd⟩ := E.all_cons hd
 obtain ⟨f2, y2, rfl, hf2, hd⟩ := E.all_cons hd
 have := E.all_nil hd
 subst this
 obtain ⟨ps, rfl, a1, a2⟩ := ri ha
 obtain ⟨rf, rfl, k1⟩ := gc hb
 obtain ⟨lo, rfl, k2⟩ := gc hc
 obtain ⟨g0, rfl, k3⟩ := gc hf0
 obtain ⟨g1, rfl, k4⟩ := gc hf1
 obtain ⟨g2, rfl, k5⟩ := gc hf2
 exact ⟨⟨ps, rf, lo, g0, g1, g2⟩, rfl, ⟨fun p hp => ⟨(a2 p hp).v, (a2 p hp).w⟩, k1, k2, k3, k4, k5⟩, a1⟩
theorem fl {x : Raw} {k n : Nat} (hx : x.Ok k) (h : eR n x = true) : x.Ok n := by
 simp [eR] at h; exact ⟨hx.dn, hx.dd, h.1, h.2⟩
theorem few_ok {m : Ms} {k : Nat} (hm : m.Ok k) (h : iR m = true) : m.Ok 6 ∧ m.parts.length ≤ 40 ∧ ∀ p ∈ m.parts, cQ p.v ≤ 200 := by
 simp only [iR, Bool.and_eq_true, decide_eq_true_eq, List.all_eq_true] at h
 obtain ⟨⟨h1, h2⟩, h3⟩ := h
 refine ⟨⟨fun p hp => ⟨(hm.parts p hp).1, fl (hm.parts p hp).2 (h3 _ (by simp [Ms.ws]; exact Or.inr ⟨p, hp, rfl⟩))⟩, fl hm.rf (h3 _ (by simp [Ms.ws, Ms.five])), fl hm.lo (h3 _ (by simp [Ms.ws, Ms.five])), fl hm.f0 (h3 _ (by simp [Ms.ws, Ms.five])), fl hm.f1 (h3 _ (by simp [Ms.ws, Ms.five])), fl hm.f2 (h3 _ (by simp [Ms.ws, Ms.five]))⟩, h1, fun p hp => ?_⟩
 have := oF (l := m.vs) (x := p.v) (List.mem_map.2 ⟨p, hp, rfl⟩)
 omega
theorem Ms.Ok.mono {m : Ms} {j k : Nat} (h : m.Ok j) (hk : j ≤ k) : m.Ok k :=
 ⟨fun p hp => ⟨(h.parts p hp).1, rok (h.parts p hp).2 hk⟩, rok h.rf hk, rok h.lo hk, rok h.f0 hk, rok h.f1 hk, rok h.f2 hk⟩
theorem toD_msC (σ : Sto) (n : Nat) (m : Ms) : bo (toD σ (n + 1)) (msC m) = some (msC m) := by simp [msC, am]
end Go.Proofs.YtmjgehbpcchjpaaGreatDoor
