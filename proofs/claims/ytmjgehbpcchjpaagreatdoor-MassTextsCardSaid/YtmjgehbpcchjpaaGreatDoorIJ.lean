import Derived.Test.YtmjgehbpcchjpaaGreatDoorID
import Derived.Test.YtmjgehbpcchjpaaGreatDoorHT
namespace Go.Proofs.YtmjgehbpcchjpaaGreatDoor
open Go Go.Proofs Go.Proofs.YtmjgehbpcchjpaaGreatDoor.E
set_option linter.unusedSimpArgs false
set_option linter.unusedVariables false
theorem ref04_parts {m : Ms} {K : Nat} (hK : 1 ≤ K) (hm : m.Ok K) (hl : m.parts.length ≤ 1000) (hb : K ≤ 100000) (hc : ∀ p ∈ m.parts, cntT p.v ≤ 1000000) : CallD Tryz.prog F.ref04_parts [m.v] (· = pl (normP m.parts)) :=
 callD_of_new (ref04_partsX hK hm hl hb hc) (by omega) (by simp) fun r hr σ n => by obtain ⟨x, _, rfl⟩ := List.mem_map.1 hr; exact toD_partC _ _ _
end Go.Proofs.YtmjgehbpcchjpaaGreatDoor
