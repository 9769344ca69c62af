import Derived.Test.YtmjgehbpcchjpaaGreatDoorIC
import Derived.Test.YtmjgehbpcchjpaaGreatDoorIA
import Derived.Test.YtmjgehbpcchjpaaGreatDoorIB
import Derived.Test.YtmjgehbpcchjpaaGreatDoorHW
namespace Go.Proofs.YtmjgehbpcchjpaaGreatDoor
open Go Go.Proofs Go.Proofs.YtmjgehbpcchjpaaGreatDoor.E
set_option linter.unusedSimpArgs false
set_option linter.unusedVariables false
def valsM (l : List Ms) : List Tr := (l.map fun m => m.parts.map Part.v).flatten
theorem Sml.toBd {m : Ms} {K n W : Nat} {S : List Tr} (h : Sml m K n) (hK : 1 ≤ K) (hW : 1 + n * (K + 1) ≤ W) (hW2 : K ≤ W) (hv : ∀ p ∈ m.parts, p.v ∈ S) : Bd m K n W S := by
 have f : ∀ {x : Raw}, x.Ok K → Fits x.q W := fun hx => (Raw.fits hx hK).mono hW2
 refine ⟨h.ok, h.len, h.cnt, hv, fun v => ?_, f h.ok.rf, f h.ok.lo, f h.ok.f0, f h.ok.f1, f h.ok.f2⟩
 have l1 := Nat.mul_le_mul_right (K + 1) h.len
 exact (jd (k := K) hK (fun x hx => Raw.fits (h.ok.parts x hx).2 hK) v).mono (by omega)
theorem Sml.bd {m : Ms} {l : List Ms} (h : Sml m 6 40) (hm : m ∈ l) : Bd m 6 40 300 (valsM l) :=
 h.toBd (by omega) (by omega) (by omega) fun p hp => List.mem_flatten.2 ⟨_, List.mem_map.2 ⟨m, hm, rfl⟩, List.mem_map.2 ⟨p, hp, rfl⟩⟩
theorem Bd.same {x y : Ms} {Kx nx Wx Ky ny Wy : Nat} {S R : List Tr} (h : Bd x Kx nx Wx S) (k : Bd y Ky ny Wy R) (K : Nat) (hK : 1 ≤ K) (hx : Kx ≤ K) (hy : Ky ≤ K) (hb : K ≤ 1000000) (hnx : nx ≤ 1000) (hny : ny ≤ 1000) (he : bf x = bf y) : CallD Tryz.prog F.mass_Same [.agg (msC x), .agg (msC y)] (· = .bool true) :=
 mass_Same hK hb (h.ok.mono hx) (k.ok.mono hy) (Nat.le_trans h.len hnx) (Nat.le_trans k.len hny) he
theorem Bd.mono {m : Ms} {K n W K' n' W' : Nat} {S : List Tr} (h : Bd m K n W S) (h1 : K ≤ K') (h2 : n ≤ n') (h3 : W ≤ W') : Bd m K' n' W' S :=
 ⟨h.ok.mono h1, Nat.le_trans h.len h2, h.cnt, h.vals, fun v => (h.w v).mono h3, h.rf.mono h3, h.lo.mono h3, h.f0.mono h3, h.f1.mono h3, h.f2.mono h3⟩
end Go.Proofs.YtmjgehbpcchjpaaGreatDoor
