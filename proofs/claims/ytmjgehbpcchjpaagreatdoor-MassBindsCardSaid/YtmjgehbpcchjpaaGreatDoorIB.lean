import Derived.Test.YtmjgehbpcchjpaaGreatDoorIA
import Derived.Test.YtmjgehbpcchjpaaGreatDoorHX2
namespace Go.Proofs.YtmjgehbpcchjpaaGreatDoor
open Go Go.Proofs Go.Proofs.YtmjgehbpcchjpaaGreatDoor.E
set_option linter.unusedSimpArgs false
set_option linter.unusedVariables false
structure Bd (m : Ms) (K n W : Nat) (S : List Tr) : Prop where
 ok : m.Ok K
 len : m.parts.length ≤ n
 cnt : ∀ p ∈ m.parts, cQ p.v ≤ 1000000
 vals : ∀ p ∈ m.parts, p.v ∈ S
 w : ∀ v, Fits (aU m.parts v) W
 rf : Fits m.rf.q W
 lo : Fits m.lo.q W
 f0 : Fits m.f0.q W
 f1 : Fits m.f1.q W
 f2 : Fits m.f2.q W
end Go.Proofs.YtmjgehbpcchjpaaGreatDoor
