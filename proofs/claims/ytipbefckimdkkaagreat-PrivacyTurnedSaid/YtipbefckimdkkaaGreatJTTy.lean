/- Numbers of types in this seat. -/
import Derived.Test.YtipbefckimdkkaaGreatGA
namespace Go.Proofs.YtipbefckimdkkaaGreat.T
abbrev int : Nat := 3
abbrev bool : Nat := 4
abbrev u32 : Nat := 120
abbrev u64 : Nat := 99
abbrev nat : Nat := 26
abbrev value : Nat := 58
abbrev values : Nat := 50
abbrev ratio : Nat := 28
abbrev part : Nat := 81
abbrev parts : Nat := 22
abbrev parts2 : Nat := 79
abbrev lists : Nat := 71
abbrev type : Nat := 130
abbrev types : Nat := 128
end Go.Proofs.YtipbefckimdkkaaGreat.T
