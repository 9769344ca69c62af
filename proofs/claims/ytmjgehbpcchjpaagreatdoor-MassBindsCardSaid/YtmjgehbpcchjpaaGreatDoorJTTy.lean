/- Numbers of types in this seat. -/
import Derived.Test.YtmjgehbpcchjpaaGreatDoorGA
namespace Go.Proofs.YtmjgehbpcchjpaaGreatDoor.T
abbrev int : Nat := 3
abbrev bool : Nat := 4
abbrev u32 : Nat := 111
abbrev u64 : Nat := 106
abbrev nat : Nat := 25
abbrev value : Nat := 45
abbrev values : Nat := 43
abbrev ratio : Nat := 27
abbrev part : Nat := 67
abbrev parts : Nat := 32
abbrev rat3 : Nat := 33
abbrev lists : Nat := 147
abbrev mass : Nat := 35
abbrev masses : Nat := 22
abbrev type : Nat := 129
abbrev types : Nat := 127
abbrev out : Nat := 70
end Go.Proofs.YtmjgehbpcchjpaaGreatDoor.T
